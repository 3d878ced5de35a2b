/- Whatever the arguments: FnExactLinesFor returns true, and changes nothing that was there. No conditions. -/
import Derived.Test.YtebodfciiikokaaLaw
import Derived.Test.YtebodfciiikokaaExact
import Derived.Test.YtebodfciiikokaaLines
namespace Go.Proofs.Ytebodfciiikokaa.lExactLinesFor
open Go.ChangeShapes Go.WideShapes Go.ChangeAt Go.RowKit
open Go.ChangeMaps (open_string shut_string)
set_option linter.unusedVariables false

set_option maxRecDepth 100000 in
set_option maxHeartbeats 2000000 in
theorem walk (a0 : Option Addr) (l : List Key) (cap0 : Nat) (n1 : Int) (w : World) (hks : Ks w.heap.size w a0 l) (hlc : l.length ≤ cap0) (hlm : cap0 ≤ maxLen) :
    Calls Try.prog 5 #[.slice a0 l.length cap0, .int .i64 n1] w fun e w' => e = .returned (.bool true) ∧ Below w.heap.size w w' := by
  by_cases hbig : l.length ≤ 1048576
  case neg =>
    have hm63 : l.length ≤ 9223372036854775807 := by unfold maxLen at hlm; omega
    go_enter Try.func5, Try.ntmps5
    go_wp2_with fail
    refine (szKeyS_big _ _ _ _ hm63 hbig).mono ?_
    rintro e w1 ⟨rfl, rfl⟩
    go_wp2
    go_ret
    exact ⟨rfl, bR⟩
  have HK := Lib.hid hks
  have HT : Hid (∀ W, Below w.heap.size w W → Calls Try.prog 20 #[.slice a0 l.length cap0] W fun r w' => r = .returned (.slice (some ⟨W.heap.size, 0, none⟩) l.length l.length) ∧ KOwn w' W.heap.size l ∧ Below W.heap.size W w') :=
    fun W hw => toKeyS_any a0 cap0 l W (HK.out.now (Nat.le_refl _) hw) hbig
  have hq0 : ¬ (1048576 : Int) - (l.length : Int) < 0 := by omega
  have hq1 : ¬ (1 : Int) + 2 * (l.length : Int) < 0 := by omega
  clear hks hlc hlm
  have KS := fun (A : Option Addr) (c : Nat) (W : World) (h : Ks W.heap.size W A l) => sLinesFor_any A c l n1 W h (by omega)
  have KI := fun (A : Option Addr) (c : Nat) (W : World) (h : Ks W.heap.size W A l) (hc : l.length ≤ c) => LinesFor_any A c l n1 W h (by omega)
  generalize lfv l n1 = V0 at KS KI
  generalize (lf l n1).isSome = V at KS KI
  have HS := Lib.hid KS
  have HI := Lib.hid KI
  clear KS KI
  go_enter Try.func5, Try.ntmps5
  go_wp2_with fail
  refine (szKeyS_small _ _ _ _ hbig).mono ?_
  rintro e w1 ⟨rfl, rfl⟩
  go_wp2_with fail
  refine (HT.out _ bR).mono ?_
  rintro e w2 ⟨rfl, hk2, hb2⟩
  go_wp2_with fail
  refine (HS.out _ _ _ hk2.ks).mono ?_
  rintro e w3 ⟨rfl, hb3'⟩
  have hb3 := bT hb2 hb3'
  clear hk2
  go_wp2_with fail
  refine (HT.out _ hb3).mono ?_
  rintro e w4 ⟨rfl, hk4, hb4'⟩
  have hb4 := bT hb3 hb4'
  go_wp2_with fail
  refine (HI.out _ _ _ hk4.ks (Nat.le_refl _)).mono ?_
  rintro e w5 ⟨rfl, hb5'⟩
  have hb5 := bT hb4 hb5'
  have HK4 := Lib.hid hk4
  clear hk4
  go_wp2_with fail
  refine (HT.out _ hb5).mono ?_
  rintro e w7 ⟨rfl, hk7, hb7'⟩
  have K7 := eqKeyS_same _ _ l.length l.length l _ (HK4.out.ksb (bT hb5' hb7')) hk7.ks (by omega)
  have H7 := Lib.hid K7
  clear K7 hk7
  go_wp2_with fail
  refine H7.out.mono ?_
  rintro e w8 ⟨rfl, hb8'⟩
  go_wp2
  go_ret
  exact ⟨rfl, bT hb5 (bT hb7' hb8')⟩

set_option maxRecDepth 100000 in
theorem closed : joinedFacts Try.prog 5 Try.f5 Rows.fnExactLinesForSpec Rows.fnExactLinesForRow = true := by
  unfold joinedFacts
  rw [may_enter, lifts_final, make_cut]
  refine Eq.trans ?_ (Eq.refl _)
  kernel_rfl
set_option maxRecDepth 100000 in
theorem lifted (os : Os) (started : os.Started) (H : Type) (enc : TypeId × Value → H) :
    ReturnsInHanded {} Try.checked os 5 .any (Rows.fnExactLinesForSpec.pre6 enc Try.prog Try.f5 Rows.fnExactLinesForRow.domain false) (Rows.fnExactLinesForSpec.post enc Try.prog Try.f5 false true false false) := by
  refine returnsInHanded_of_change (C := Try.checked) own started (by kernel_rfl) Try.func5
    (ChangeSpec.witness6 (enc := enc) (C := Try.checked) false ⟨#[], #[.slice none 0 0, .int .i64 0], []⟩ 8 (by kernel_rfl) (by kernel_rfl) (by kernel_rfl) (by kernel_rfl)) ?_
  intro W base args ds gs before hval0 hW hcnd _
  have hval : ∀ (j : Nat) t v, Try.f5.params[j]? = some t → args[j]? = some v → Value.okWide Try.prog W .any base t v := hval0
  have hW' := hW
  obtain ⟨p, q, hA0, hV, rfl, hfz, hnd⟩ := hW
  have hA : DataW.TrodAll enc Try.prog W 0 (fun _ => true) true Try.f5.params.toList args.toList ds p := hA0
  rw [Try.params5] at hA hval
  obtain ⟨v0, vs0, d0, ds0, p0, q0, hargs, rfl, rfl, h0, r0⟩ := trodAll_cons hA
  obtain ⟨v1, vs1, d1, ds1, p1, q1, rfl, rfl, rfl, h1, r1⟩ := trodAll_cons r0
  obtain ⟨rfl, rfl, rfl⟩ := trodAll_nil r1
  obtain rfl : args = #[v0, v1] := by cases args; simp_all
  obtain ⟨rfl, rfl⟩ := trodVars_none hV
  obtain ⟨a0, len0, cap0, rfl⟩ := okWide_slice Try.underlying34 (hval 0 34 v0 rfl rfl)
  have k0 := h0
  have lt0 : ∀ x ∈ p0, x.block < W.heap.size := by obtain ⟨m, hm⟩ := k0; exact DataW.trod_lt m _ _ _ hm
  obtain ⟨n1, rfl, rfl, rfl, wn1⟩ := open_int Try.underlying3 (hval 1 3 v1 rfl rfl) h1
  obtain ⟨l, hll, hlc, hlm, hks⟩ : ∃ l : List Key, l.length = len0 ∧ len0 ≤ cap0 ∧ cap0 ≤ maxLen ∧ Ks W.heap.size W a0 l := by
    obtain ⟨fuel, hf⟩ := h0
    exact open_keys hf
  subst hll
  clear hA0 hval0
  refine (walk a0 l cap0 n1 W hks hlc hlm).mono fun e W' ⟨he, bel⟩ => ?_
  subst he
  exact ⟨_, rfl, _, _, _, [], _, [], hW', trodAll_mk1 (shut_bool Try.underlying4 _), (trodAll_cons_mk (Below.trod laidOut (by kernel_rfl) (of_decide_eq_true (by kernel_rfl)) k0 bel lt0) (trodAll_cons_mk (shut_int Try.underlying3 wn1) trodAll_mk0)), rfl, bel.frame _, fun h => by cases h⟩

theorem over : Rows.fnExactLinesForRow.holds Try.pinned (OpenSpec.ofChange Rows.fnExactLinesForSpec) :=
  OpenClaim.holds_of_wide 5 Try.f5 rfl rfl rfl rfl rfl rfl rfl ⟨rfl, rfl, rfl, rfl, rfl⟩ rfl rfl rfl rfl rfl (by kernel_rfl) Try.func5 closed
    (of_decide_eq_true (by kernel_rfl)) (by unfold Func.isWrapper; rw [if_neg (of_decide_eq_false (by kernel_rfl))]; exact ⟨rfl, rfl⟩)
    (fun os started H enc _ => lifted os started H enc)

theorem proved : Rows.FnExactLinesForSaid := over
#print axioms proved
end Go.Proofs.Ytebodfciiikokaa.lExactLinesFor
