/- Whatever the bytes: FnDistanceNext returns true, and changes nothing that was there. No conditions. -/
import Derived.Test.YtbegdjemnclfaaaLaw
import Derived.Test.YtbegdjemnclfaaaDist
namespace Go.Proofs.Ytbegdjemnclfaaa.lDistanceNext
open Go.ChangeShapes Go.WideShapes Go.ChangeAt Go.RowKit
open Go.ChangeMaps (open_string shut_string)
set_option linter.unusedVariables false

set_option maxRecDepth 100000 in
set_option maxHeartbeats 2000000 in
theorem walk (a0 : Option Addr) (len0 cap0 : Nat) (z0 : List Int) (w : World) (w0 : IsRow .u8 w a0 len0 cap0 z0) :
    Calls Try.prog 5 #[.slice a0 len0 cap0] w fun e w' => e = .returned (.bool true) ∧ Below w.heap.size w w' := by
  by_cases hbig : 1048576 < len0
  · go_enter Try.func5, Try.ntmps5
    go_wp2
    go_ret
    exact ⟨rfl, bR⟩
  have hcap := row_cap w0
  have hby := Lib.hid (row_bytes w0)
  clear w0
  go_enter Try.func5, Try.ntmps5
  go_wp2_with fail
  refine (DrawDistancesOf_any a0 len0 cap0 w hby.out hcap (by omega)).mono ?_
  rintro e w1 ⟨A, c, l, rfl, hks, hlc, hl, hb1⟩
  have HKS := Lib.hid hks
  have HB := Lib.hid hb1
  clear hks hb1
  have K1 := fun W (hw : Below w1.heap.size w1 W) => DistancesOf_is A c l W (HKS.out.now (Nat.le_refl _) hw) hlc (by omega)
  have K2 := fun W (hw : Below w1.heap.size w1 W) => sDistancesOf_any A c l W (HKS.out.now (Nat.le_refl _) hw) (by omega)
  by_cases hv : tval l = true
  · have e0 : dsv l = dsl l := by unfold dsv; rw [if_pos hv]
    have hv5 := tval_take (l.length / 2) hv
    have hln : (l.take (l.length / 2)).length = l.length / 2 := by rw [List.length_take]; omega
    have e5 : dsv (l.take (l.length / 2)) = (dsl l).take (l.length / 2) := by unfold dsv; rw [if_pos hv5, dsl_front _ _ (by omega)]
    have hks5 : Ks w1.heap.size w1 (cutA A c 0 2) (l.take (l.length / 2)) := by
      have := HKS.out.kcut (c := c) (lo := 0) (hi := l.length / 2) (by omega) (by omega) hlc
      rwa [List.drop_zero] at this
    have hl5 : ((dsl l).take (l.length / 2)).length = l.length / 2 := by rw [List.length_take, dsl_length]; omega
    have K5 := fun W (hw : Below w1.heap.size w1 W) => DistancesOf_is (cutA A c 0 2) c (l.take (l.length / 2)) W (hks5.now (Nat.le_refl _) hw) (by omega) (by omega)
    have hs := fun W => ks_hi W A l.length c ((l.length : Int) / 2) (by omega) (by omega)
    rw [show ((l.length : Int) / 2).toNat = l.length / 2 by omega, Nat.sub_zero, Nat.sub_zero] at hs
    simp only [e0, hv, dsl_length] at K1 K2
    simp only [e5, hv5, hln, hl5] at K5
    have H1 := Lib.hid K1
    have H2 := Lib.hid K2
    have H5 := Lib.hid K5
    clear K1 K2 K5 e0 e5 hv hv5 hln hks5
    go_wp2_with fail
    refine (H1.out _ bR).mono ?_
    rintro e w2 ⟨A2, c2, rfl, hlc2, his2, hb2'⟩
    have hb2 := bT bR hb2'
    go_wp2_with fail
    refine (H2.out _ hb2).mono ?_
    rintro e w3 ⟨A3, c3, rfl, _, his3, hb3'⟩
    have hb3 := bT hb2 hb3'
    have K3 := fun W (hw : Below w3.heap.size w3 W) => ipInts_same A2 A3 c2 c3 (dsl l) W ((his2.now (Nat.le_refl _) hb3').now (Nat.le_refl _) hw) (his3.now (Nat.le_refl _) hw) (by rw [dsl_length]; omega)
    rw [dsl_length] at K3
    have HIS := Lib.hid (his2.now (Nat.le_refl _) hb3')
    have H3 := Lib.hid K3
    clear K3 his2 his3
    go_wp2_with fail
    refine (H3.out _ bR).mono ?_
    rintro e w4 ⟨rfl, hb4⟩
    have hbw4 := bT hb3 hb4
    go_wp2
    go_loopw [8] (fun u wr => ∃ k : Nat, 1 ≤ k ∧ u = .int .i64 k ∧ Below w4.heap.size w4 wr) (fun u _ => l.length - (intOf u).toNat)
    case atStart => exact ⟨1, by omega, rfl, bR⟩
    case round =>
      obtain ⟨k, hk, rfl, hb⟩ := hrel
      by_cases hlt : k < l.length
      · obtain ⟨b2, o2, v2, rfl, hbb2, d2, g2⟩ := ((HIS.out.now (Nat.le_refl _) hb4).now (Nat.le_refl _) hb).int (k := k) (by rw [dsl_length]; exact hlt)
        rw [dsl_get l k hlt] at g2
        injection g2 with g2
        subst g2
        have hbl := bT hbw4 hb
        obtain ⟨b, o, x, y, rfl, hbb, c1, c2, e1⟩ := (HKS.out.now (Nat.le_refl _) hbl).key2 hlt
        obtain ⟨b', o', x', y', hTe', hbb', c1', c2', e2⟩ := (HKS.out.now (Nat.le_refl _) hbl).key2 (k := k - 1) (by omega)
        injection hTe' with hTe'
        injection hTe' with h1 h2
        subst h1 h2
        have hws : IntKind.i64.wrap ((k : Int) - 1) = (k : Int) - 1 := IntWalk.i64_in _ (by omega)
        have he := fun W => eql_key x y x' y' W
        have hdn := Tr.dist_next (tr := l) k hk hlt
        rw [List.getElem?_eq_getElem hlt] at e1
        rw [List.getElem?_eq_getElem (by omega)] at e2
        injection e1 with e1
        injection e2 with e2
        rw [e1, e2] at hdn
        by_cases hxy : (x, y) = (x', y')
        · have hq : keq x y x' y' = true := keq_true hxy
          have hz : (Tr.dist l k == 0) = true := by rw [beq_iff_eq]; exact hdn.2 hxy
          clear hdn e1 e2 hxy
          generalize Tr.dist l k = C1 at *
          go_wp2
          go_quiet (fail)
          go_wp2
          go_roundw
          case rel => exact ⟨k + 1, by omega, by go_num, bDN hb⟩
          case measure => simp [intOf]; omega
        · have hq : keq x y x' y' = false := keq_false hxy
          have hz : (Tr.dist l k == 0) = false := by rw [beq_eq_false_iff_ne]; exact fun h => hxy (hdn.1 h)
          clear hdn e1 e2 hxy
          generalize Tr.dist l k = C1 at *
          go_wp2
          go_quiet (fail)
          go_wp2
          go_roundw
          case rel => exact ⟨k + 1, by omega, by go_num, bDN hb⟩
          case measure => simp [intOf]; omega
      · have hb2r := bT hb4 hb
        have hbl := bT hb3 hb2r
        go_wp2_with fail
        refine (H5.out _ hbl).mono ?_
        rintro e w5 ⟨A5, c5, rfl, _, his5, hb5⟩
        have hfr := is_pre ((HIS.out.now (Nat.le_refl _) hb2r).now (Nat.le_refl _) hb5) (l.length / 2) (by rw [dsl_length]; omega)
        have K6 := ipInts_same A5 A2 c5 c2 _ w5 his5 hfr (by omega)
        rw [hl5] at K6
        have H6 := Lib.hid K6
        clear K6 his5 hfr
        go_wp2_with fail
        refine H6.out.mono ?_
        rintro e w6 ⟨rfl, hb6⟩
        go_wp2
        go_ret
        exact ⟨rfl, bT HB.out (bT hbl (bT hb5 hb6))⟩
  · have hv : tval l = false := by simpa using hv
    have hcv : dsv l = [] := by unfold dsv; rw [hv]; rfl
    simp only [hcv, hv, List.length_nil] at K1 K2
    have H1 := Lib.hid K1
    have H2 := Lib.hid K2
    clear K1 K2 hcv
    go_wp2_with fail
    refine (H1.out _ bR).mono ?_
    rintro e w2 ⟨A2, c2, rfl, _, his2, hb2'⟩
    have hb2 := bT bR hb2'
    go_wp2_with fail
    refine (H2.out _ hb2).mono ?_
    rintro e w3 ⟨A3, c3, rfl, _, his3, hb3'⟩
    have hb3 := bT hb2 hb3'
    have K3 := fun W (hw : Below w3.heap.size w3 W) => ipInts_same A2 A3 c2 c3 [] W ((his2.now (Nat.le_refl _) hb3').now (Nat.le_refl _) hw) (his3.now (Nat.le_refl _) hw) (by simp)
    simp only [List.length_nil] at K3
    have H3 := Lib.hid K3
    clear K3 his2 his3
    go_wp2_with fail
    refine (H3.out _ bR).mono ?_
    rintro e w4 ⟨rfl, hb4⟩
    go_wp2_with fail
    refine (H3.out _ hb4).mono ?_
    rintro e w5 ⟨rfl, hb5⟩
    go_wp2
    go_ret
    exact ⟨rfl, bT HB.out (bT hb3 (bT hb4 hb5))⟩

set_option maxRecDepth 100000 in
theorem closed : joinedFacts Try.prog 5 Try.f5 Rows.fnDistanceNextSpec Rows.fnDistanceNextRow = true := by
  unfold joinedFacts
  rw [may_enter, lifts_final, make_cut]
  refine Eq.trans ?_ (Eq.refl _)
  kernel_rfl
set_option maxRecDepth 100000 in
theorem lifted (os : Os) (started : os.Started) (H : Type) (enc : TypeId × Value → H) :
    ReturnsInHanded {} Try.checked os 5 .any (Rows.fnDistanceNextSpec.pre6 enc Try.prog Try.f5 Rows.fnDistanceNextRow.domain false) (Rows.fnDistanceNextSpec.post enc Try.prog Try.f5 false true false false) := by
  refine returnsInHanded_of_change (C := Try.checked) own started (by kernel_rfl) Try.func5
    (ChangeSpec.witness6 (enc := enc) (C := Try.checked) false ⟨#[], #[.slice none 0 0], []⟩ 8 (by kernel_rfl) (by kernel_rfl) (by kernel_rfl) (by kernel_rfl)) ?_
  intro W base args ds gs before hval0 hW hcnd _
  have hval : ∀ (j : Nat) t v, Try.f5.params[j]? = some t → args[j]? = some v → Value.okWide Try.prog W .any base t v := hval0
  have hW' := hW
  obtain ⟨p, q, hA0, hV, rfl, hfz, hnd⟩ := hW
  have hA : DataW.TrodAll enc Try.prog W 0 (fun _ => true) true Try.f5.params.toList args.toList ds p := hA0
  rw [Try.params5] at hA hval
  obtain ⟨v0, vs0, d0, ds0, p0, q0, hargs, rfl, rfl, h0, r0⟩ := trodAll_cons hA
  obtain ⟨rfl, rfl, rfl⟩ := trodAll_nil r0
  obtain rfl : args = #[v0] := by cases args; simp_all
  obtain ⟨rfl, rfl⟩ := trodVars_none hV
  obtain ⟨a0, len0, cap0, rfl⟩ := okWide_slice Try.underlying22 (hval 0 22 v0 rfl rfl)
  have k0 := h0
  have lt0 : ∀ x ∈ p0, x.block < W.heap.size := by obtain ⟨m, hm⟩ := k0; exact DataW.trod_lt m _ _ _ hm
  obtain ⟨z0, w0⟩ : ∃ zs, IsRow .u8 W a0 len0 cap0 zs := by
    obtain ⟨fuel, hf⟩ := h0
    rcases open_ints Try.underlying22 Try.underlying5 (by kernel_rfl) hf with ⟨hcs, _⟩ | ⟨x, l, c, zs, hcs, _, hl, hm, hz, _, hcell, hwz⟩
    · simp [Value.cells] at hcs
      obtain ⟨rfl, rfl, rfl⟩ := hcs
      exact ⟨[], .inl ⟨rfl, rfl, rfl, rfl⟩⟩
    · simp [Value.cells] at hcs
      obtain ⟨rfl, rfl, rfl⟩ := hcs
      exact ⟨zs, .inr ⟨_, rfl, hl, hm, by simpa using hz, hcell, hwz⟩⟩
  clear hA0 hval0
  refine (walk a0 len0 cap0 z0 W w0).mono fun e W' ⟨he, bel⟩ => ?_
  subst he
  exact ⟨_, rfl, _, _, _, [], _, [], hW', trodAll_mk1 (shut_bool Try.underlying4 _), (trodAll_cons_mk (Below.trod laidOut (by kernel_rfl) (of_decide_eq_true (by kernel_rfl)) k0 bel lt0) trodAll_mk0), rfl, bel.frame _, fun h => by cases h⟩

theorem over : Rows.fnDistanceNextRow.holds Try.pinned (OpenSpec.ofChange Rows.fnDistanceNextSpec) :=
  OpenClaim.holds_of_wide 5 Try.f5 rfl rfl rfl rfl rfl rfl rfl ⟨rfl, rfl, rfl, rfl, rfl⟩ rfl rfl rfl rfl rfl (by kernel_rfl) Try.func5 closed
    (of_decide_eq_true (by kernel_rfl)) (by unfold Func.isWrapper; rw [if_neg (of_decide_eq_false (by kernel_rfl))]; exact ⟨rfl, rfl⟩)
    (fun os started H enc _ => lifted os started H enc)

theorem proved : Rows.FnDistanceNextSaid := over
#print axioms proved
end Go.Proofs.Ytbegdjemnclfaaa.lDistanceNext
