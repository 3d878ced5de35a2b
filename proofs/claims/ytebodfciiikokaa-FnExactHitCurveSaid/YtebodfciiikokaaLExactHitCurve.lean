/- Whatever the arguments: FnExactHitCurve returns true, and changes nothing that was there. No conditions. -/
import Derived.Test.YtebodfciiikokaaLaw
import Derived.Test.YtebodfciiikokaaExact
import Derived.Test.YtebodfciiikokaaCurve
namespace Go.Proofs.Ytebodfciiikokaa.lExactHitCurve
open Go.ChangeShapes Go.WideShapes Go.ChangeAt Go.RowKit
open Go.ChangeMaps (open_string shut_string)
set_option linter.unusedVariables false

set_option maxRecDepth 100000 in
set_option maxHeartbeats 2000000 in
theorem walk (a0 : Option Addr) (l : List Key) (cap0 : Nat) (w : World) (hks : Ks w.heap.size w a0 l) (hlc : l.length ≤ cap0) (hlm : cap0 ≤ maxLen) :
    Calls Try.prog 10 #[.slice a0 l.length cap0] w fun e w' => e = .returned (.bool true) ∧ Below w.heap.size w w' := by
  by_cases hbig : l.length ≤ 1048576
  case neg =>
    have hm63 : l.length ≤ 9223372036854775807 := by unfold maxLen at hlm; omega
    go_enter Try.func10, Try.ntmps10
    go_wp2_with fail
    refine (szKeyS_big _ _ _ _ hm63 hbig).mono ?_
    rintro e w1 ⟨rfl, rfl⟩
    go_wp2
    go_ret
    exact ⟨rfl, bR⟩
  have HK := Lib.hid hks
  have HT : Hid (∀ W, Below w.heap.size w W → Calls Try.prog 20 #[.slice a0 l.length cap0] W fun r w' => r = .returned (.slice (some ⟨W.heap.size, 0, none⟩) l.length l.length) ∧ KOwn w' W.heap.size l ∧ Below W.heap.size W w') :=
    fun W hw => toKeyS_any a0 cap0 l W (HK.out.now (Nat.le_refl _) hw) hbig
  have hq0 : ¬ (1048576 : Int) - (l.length : Int) < 0 := by omega
  have hq1 : ¬ (1 : Int) + 2 * (l.length : Int) < 0 := by omega
  clear hks hlc hlm
  have hR : (crvv l).length ≤ 1048576 := by have := crvv_le l; omega
  have KS := fun (A : Option Addr) (c : Nat) (W : World) (h : Ks W.heap.size W A l) => sHitCurve_any A c l W h (by omega)
  have KI := fun (A : Option Addr) (c : Nat) (W : World) (h : Ks W.heap.size W A l) (hc : l.length ≤ c) => HitCurve_mine A c l W h (by omega)
  generalize crvv l = R at KS KI hR
  generalize tval l = V at KS KI
  have HS := Lib.hid KS
  have HI := Lib.hid KI
  clear KS KI
  have hq2 : ¬ (1 : Int) + (R.length : Int) < 0 := by omega
  go_enter Try.func10, Try.ntmps10
  go_wp2_with fail
  refine (szKeyS_small _ _ _ _ hbig).mono ?_
  rintro e w1 ⟨rfl, rfl⟩
  go_wp2_with fail
  refine (HT.out _ bR).mono ?_
  rintro e w2 ⟨rfl, hk2, hb2⟩
  go_wp2_with fail
  refine (HS.out _ _ _ hk2.ks).mono ?_
  rintro e w3 ⟨A3, c3, rfl, hlc3, his3, hb3'⟩
  have hb3 := bT hb2 hb3'
  clear hk2
  go_wp2_with fail
  refine (HT.out _ hb3).mono ?_
  rintro e w4 ⟨rfl, hk4, hb4'⟩
  have hb4 := bT hb3 hb4'
  go_wp2_with fail
  refine (HI.out _ _ _ hk4.ks (Nat.le_refl _)).mono ?_
  rintro e w5 ⟨A5, c5, rfl, hlc5, hm5, hb5'⟩
  have hb5 := bT hb4 hb5'
  have K5 := eqIntS_same A5 A3 c5 c3 R _ hm5.is (his3.now (Nat.le_refl _) (bT hb4' hb5')) (by omega)
  have H5 := Lib.hid K5
  have HIS3 := Lib.hid his3
  have HK4 := Lib.hid hk4
  have HM5 := Lib.hid hm5
  clear K5 his3 hk4 hm5
  go_wp2_with fail
  refine H5.out.mono ?_
  rintro e w6 ⟨rfl, hb6'⟩
  go_wp2_with fail
  refine (HT.out _ (bT hb5 hb6')).mono ?_
  rintro e w7 ⟨rfl, hk7, hb7'⟩
  have K7 := eqKeyS_same _ _ l.length l.length l _ (HK4.out.ksb (bT hb5' (bT hb6' hb7'))) hk7.ks (by omega)
  have H7 := Lib.hid K7
  clear K7 hk7
  go_wp2_with fail
  refine H7.out.mono ?_
  rintro e w8 ⟨rfl, hb8'⟩
  have hb58 := bT hb6' (bT hb7' hb8')
  have hk8 := HK4.out.below (bT hb5' hb58)
  have K8 := markKeyS_any _ l.length l _ hk8 hbig
  have H8 := Lib.hid K8
  clear K8 hk8
  go_wp2_with fail
  refine H8.out.mono ?_
  rintro e w9 ⟨rfl, hg9⟩
  have hb39 := bG (bT hb4' (bT hb5' hb58)) hg9 (by intro k hk; injection hk with hk; omega)
  have h34 : w3.heap.size < w4.heap.size := by obtain ⟨cs, h, _⟩ := HK4.out; exact h.lt
  have HM9 := Lib.hid ((HM5.out.below hb58).grown hg9 h34)
  have K9 := eqIntS_same A5 A3 c5 c3 R _ HM9.out.is (HIS3.out.now (Nat.le_refl _) hb39) (by omega)
  have H9 := Lib.hid K9
  clear K9 hg9
  go_wp2_with fail
  refine H9.out.mono ?_
  rintro e w10 ⟨rfl, hb10'⟩
  have HM10 := Lib.hid (HM9.out.below hb10')
  have K10 := markIntS_any w4.heap.size A5 c5 R _ HM10.out hR
  have H10 := Lib.hid K10
  clear K10
  go_wp2_with fail
  refine H10.out.mono ?_
  rintro e w11 ⟨rfl, hmk, hg11⟩
  have hb311 := bG (bT hb39 hb10') hg11 (fun k hk => by have := HM10.out.row k hk; omega)
  have HMK := Lib.hid hmk
  clear hmk hg11
  go_wp2_with fail
  refine (heldIntS_any A5 R.length c5 _ HMK.out hR).mono ?_
  rintro e w12 ⟨rfl, hb12'⟩
  go_wp2_with fail
  refine (HT.out _ (bT hb3 (bT hb311 hb12'))).mono ?_
  rintro e w13 ⟨rfl, hk13, hb13'⟩
  have HK13 := Lib.hid hk13
  clear hk13
  go_wp2_with fail
  refine (HI.out _ _ _ HK13.out.ks (Nat.le_refl _)).mono ?_
  rintro e w14 ⟨A14, c14, rfl, hlc14, hm14, hb14'⟩
  have hb1214 := bT hb12' (bT hb13' hb14')
  have K14 := eqIntS_same A14 A3 c14 c3 R _ hm14.is (HIS3.out.now (Nat.le_refl _) (bT hb311 hb1214)) (by omega)
  have H14 := Lib.hid K14
  clear K14 hm14
  go_wp2_with fail
  refine H14.out.mono ?_
  rintro e w15 ⟨rfl, hb15'⟩
  go_wp2_with fail
  refine (heldIntS_any A5 R.length c5 _ (HMK.out.now (bT hb1214 hb15')) hR).mono ?_
  rintro e w16 ⟨rfl, hb16'⟩
  go_wp2
  go_ret
  exact ⟨rfl, bT hb3 (bT hb311 (bT hb1214 (bT hb15' hb16')))⟩

set_option maxRecDepth 100000 in
theorem closed : joinedFacts Try.prog 10 Try.f10 Rows.fnExactHitCurveSpec Rows.fnExactHitCurveRow = true := by
  unfold joinedFacts
  rw [may_enter, lifts_final, make_cut]
  refine Eq.trans ?_ (Eq.refl _)
  kernel_rfl
set_option maxRecDepth 100000 in
theorem lifted (os : Os) (started : os.Started) (H : Type) (enc : TypeId × Value → H) :
    ReturnsInHanded {} Try.checked os 10 .any (Rows.fnExactHitCurveSpec.pre6 enc Try.prog Try.f10 Rows.fnExactHitCurveRow.domain false) (Rows.fnExactHitCurveSpec.post enc Try.prog Try.f10 false true false false) := by
  refine returnsInHanded_of_change (C := Try.checked) own started (by kernel_rfl) Try.func10
    (ChangeSpec.witness6 (enc := enc) (C := Try.checked) false ⟨#[], #[.slice none 0 0], []⟩ 8 (by kernel_rfl) (by kernel_rfl) (by kernel_rfl) (by kernel_rfl)) ?_
  intro W base args ds gs before hval0 hW hcnd _
  have hval : ∀ (j : Nat) t v, Try.f10.params[j]? = some t → args[j]? = some v → Value.okWide Try.prog W .any base t v := hval0
  have hW' := hW
  obtain ⟨p, q, hA0, hV, rfl, hfz, hnd⟩ := hW
  have hA : DataW.TrodAll enc Try.prog W 0 (fun _ => true) true Try.f10.params.toList args.toList ds p := hA0
  rw [Try.params10] at hA hval
  obtain ⟨v0, vs0, d0, ds0, p0, q0, hargs, rfl, rfl, h0, r0⟩ := trodAll_cons hA
  obtain ⟨rfl, rfl, rfl⟩ := trodAll_nil r0
  obtain rfl : args = #[v0] := by cases args; simp_all
  obtain ⟨rfl, rfl⟩ := trodVars_none hV
  obtain ⟨a0, len0, cap0, rfl⟩ := okWide_slice Try.underlying34 (hval 0 34 v0 rfl rfl)
  have k0 := h0
  have lt0 : ∀ x ∈ p0, x.block < W.heap.size := by obtain ⟨m, hm⟩ := k0; exact DataW.trod_lt m _ _ _ hm
  obtain ⟨l, hll, hlc, hlm, hks⟩ : ∃ l : List Key, l.length = len0 ∧ len0 ≤ cap0 ∧ cap0 ≤ maxLen ∧ Ks W.heap.size W a0 l := by
    obtain ⟨fuel, hf⟩ := h0
    exact open_keys hf
  subst hll
  clear hA0 hval0
  refine (walk a0 l cap0 W hks hlc hlm).mono fun e W' ⟨he, bel⟩ => ?_
  subst he
  exact ⟨_, rfl, _, _, _, [], _, [], hW', trodAll_mk1 (shut_bool Try.underlying4 _), (trodAll_cons_mk (Below.trod laidOut (by kernel_rfl) (of_decide_eq_true (by kernel_rfl)) k0 bel lt0) trodAll_mk0), rfl, bel.frame _, fun h => by cases h⟩

theorem over : Rows.fnExactHitCurveRow.holds Try.pinned (OpenSpec.ofChange Rows.fnExactHitCurveSpec) :=
  OpenClaim.holds_of_wide 10 Try.f10 rfl rfl rfl rfl rfl rfl rfl ⟨rfl, rfl, rfl, rfl, rfl⟩ rfl rfl rfl rfl rfl (by kernel_rfl) Try.func10 closed
    (of_decide_eq_true (by kernel_rfl)) (by unfold Func.isWrapper; rw [if_neg (of_decide_eq_false (by kernel_rfl))]; exact ⟨rfl, rfl⟩)
    (fun os started H enc _ => lifted os started H enc)

theorem proved : Rows.FnExactHitCurveSaid := over
#print axioms proved
end Go.Proofs.Ytebodfciiikokaa.lExactHitCurve
