/- Whatever the bytes: FnLinesFor returns true, and changes nothing that was there. No conditions. -/
import Derived.Test.YtebodfciiikokaaLaw
import Derived.Test.YtebodfciiikokaaLines
namespace Go.Proofs.Ytebodfciiikokaa.lLinesFor
open Go.ChangeShapes Go.WideShapes Go.ChangeAt Go.RowKit
open Go.ChangeMaps (open_string shut_string)
set_option linter.unusedVariables false

set_option maxHeartbeats 1000000 in
theorem walk (a0 : Option Addr) (len0 cap0 : Nat) (z0 : List Int) (w : World) (w0 : IsRow .u8 w a0 len0 cap0 z0) :
    Calls Try.prog 6 #[.slice a0 len0 cap0] w fun e w' => e = .returned (.bool true) ∧ Below w.heap.size w w' := by
  by_cases hbig : 1048576 < len0
  · go_enter Try.func6, Try.ntmps6
    go_wp2
    go_ret
    exact ⟨rfl, bR⟩
  have hcap := row_cap w0
  have hby := Lib.hid (row_bytes w0)
  clear w0
  go_enter Try.func6, Try.ntmps6
  go_wp2_with fail
  refine (DrawLinesFor_any a0 len0 cap0 w hby.out hcap (by omega)).mono ?_
  rintro e w1 ⟨A, c, l, n, rfl, hks, hlc, hl, hn1, hn2, hb1⟩
  have HKS := Lib.hid hks
  have HB := Lib.hid hb1
  clear hks hb1
  have K1 := fun W (hw : Below w1.heap.size w1 W) => LinesFor_any A c l n W (HKS.out.now (Nat.le_refl _) hw) (by omega)
  have K2 := fun W (hw : Below w1.heap.size w1 W) => sLinesFor_any A c l n W (HKS.out.now (Nat.le_refl _) hw) (by omega)
  cases hlf : lf l n with
  | some k =>
    have hlv : lfv l n = (k : Int) + 1 := by unfold lfv; rw [hlf]
    obtain ⟨hv, hk8, hge, hlt⟩ := lf_parts hlf
    have hr : rval l ((k : Int) + 1) = true := by
      unfold rval lval
      rw [hv, Bool.true_and, Bool.and_eq_true, decide_eq_true_eq, decide_eq_true_eq]
      omega
    have hC : cval Tr.lru l ((k : Int) + 1) = ((Tr.lru l (k + 1) : Nat) : Int) := by
      unfold cval; rw [if_pos hr, show ((k : Int) + 1).toNat = k + 1 by omega]
    have K3 := fun W (hw : Below w1.heap.size w1 W) => HitsLru_any A c l ((k : Int) + 1) W (HKS.out.now (Nat.le_refl _) hw) hlc (by omega)
    have K4 := fun W (hw : Below w1.heap.size w1 W) => HitsLru_any A c l (k : Int) W (HKS.out.now (Nat.le_refl _) hw) hlc (by omega)
    simp only [hlf, hlv, Option.isSome_some] at K1 K2
    rw [hr, hC] at K3
    have hws : IntKind.i64.wrap ((k : Int) + 1 - 1) = (k : Int) := by rw [show (k : Int) + 1 - 1 = k by omega]; exact IntWalk.i64_in _ (by omega)
    by_cases h0 : k = 0
    · have hr4 : rval l (k : Int) = false := by
        unfold rval lval
        rw [hv, Bool.true_and, h0]; rfl
      have hC4 : cval Tr.lru l (k : Int) = 0 := by unfold cval; rw [hr4]; rfl
      rw [hr4, hC4] at K4
      generalize Tr.lru l (k + 1) = C1 at *
      have H1 := Lib.hid K1
      have H2 := Lib.hid K2
      have H3 := Lib.hid K3
      have H4 := Lib.hid K4
      clear K1 K2 K3 K4 hlf hlv hv hr hC hlt hr4 hC4 h0
      go_wp2_with fail
      refine (H1.out _ bR).mono ?_
      rintro e w2 ⟨rfl, hb2'⟩
      have hb2 := bT bR hb2'
      go_wp2_with fail
      refine (H2.out _ hb2).mono ?_
      rintro e w3 ⟨rfl, hb3'⟩
      have hb3 := bT hb2 hb3'
      go_wp2_with fail
      refine (H3.out _ hb3).mono ?_
      rintro e w4 ⟨rfl, hb4'⟩
      have hb4 := bT hb3 hb4'
      go_wp2_with fail
      refine (H4.out _ hb4).mono ?_
      rintro e w5 ⟨rfl, hb5'⟩
      have hb5 := bT hb4 hb5'
      go_wp2
      go_ret
      exact ⟨rfl, bT HB.out hb5⟩
    · have hr4 : rval l (k : Int) = true := by
        unfold rval lval
        rw [hv, Bool.true_and, Bool.and_eq_true, decide_eq_true_eq, decide_eq_true_eq]
        omega
      have hC4 : cval Tr.lru l (k : Int) = ((Tr.lru l (k - 1 + 1) : Nat) : Int) := by
        unfold cval; rw [if_pos hr4, show (k : Int).toNat = k - 1 + 1 by omega]
      have hl2 := hlt (k - 1) (by omega)
      rw [hr4, hC4] at K4
      generalize Tr.lru l (k + 1) = C1 at *
      generalize Tr.lru l (k - 1 + 1) = C2 at *
      have H1 := Lib.hid K1
      have H2 := Lib.hid K2
      have H3 := Lib.hid K3
      have H4 := Lib.hid K4
      clear K1 K2 K3 K4 hlf hlv hv hr hC hlt hr4 hC4
      go_wp2_with fail
      refine (H1.out _ bR).mono ?_
      rintro e w2 ⟨rfl, hb2'⟩
      have hb2 := bT bR hb2'
      go_wp2_with fail
      refine (H2.out _ hb2).mono ?_
      rintro e w3 ⟨rfl, hb3'⟩
      have hb3 := bT hb2 hb3'
      go_wp2_with fail
      refine (H3.out _ hb3).mono ?_
      rintro e w4 ⟨rfl, hb4'⟩
      have hb4 := bT hb3 hb4'
      go_wp2_with fail
      refine (H4.out _ hb4).mono ?_
      rintro e w5 ⟨rfl, hb5'⟩
      have hb5 := bT hb4 hb5'
      go_wp2
      go_ret
      exact ⟨rfl, bT HB.out hb5⟩
  | none =>
    have hlv : lfv l n = 0 := by unfold lfv; rw [hlf]
    simp only [hlf, hlv, Option.isSome_none] at K1 K2
    have H1 := Lib.hid K1
    have H2 := Lib.hid K2
    clear K1 K2 hlf hlv
    go_wp2_with fail
    refine (H1.out _ bR).mono ?_
    rintro e w2 ⟨rfl, hb2'⟩
    have hb2 := bT bR hb2'
    go_wp2_with fail
    refine (H2.out _ hb2).mono ?_
    rintro e w3 ⟨rfl, hb3'⟩
    have hb3 := bT hb2 hb3'
    go_wp2
    go_ret
    exact ⟨rfl, bT HB.out hb3⟩

set_option maxRecDepth 100000 in
theorem closed : joinedFacts Try.prog 6 Try.f6 Rows.fnLinesForSpec Rows.fnLinesForRow = true := by
  unfold joinedFacts
  rw [may_enter, lifts_final, make_cut]
  refine Eq.trans ?_ (Eq.refl _)
  kernel_rfl
set_option maxRecDepth 100000 in
theorem lifted (os : Os) (started : os.Started) (H : Type) (enc : TypeId × Value → H) :
    ReturnsInHanded {} Try.checked os 6 .any (Rows.fnLinesForSpec.pre6 enc Try.prog Try.f6 Rows.fnLinesForRow.domain false) (Rows.fnLinesForSpec.post enc Try.prog Try.f6 false true false false) := by
  refine returnsInHanded_of_change (C := Try.checked) own started (by kernel_rfl) Try.func6
    (ChangeSpec.witness6 (enc := enc) (C := Try.checked) false ⟨#[], #[.slice none 0 0], []⟩ 8 (by kernel_rfl) (by kernel_rfl) (by kernel_rfl) (by kernel_rfl)) ?_
  intro W base args ds gs before hval0 hW hcnd _
  have hval : ∀ (j : Nat) t v, Try.f6.params[j]? = some t → args[j]? = some v → Value.okWide Try.prog W .any base t v := hval0
  have hW' := hW
  obtain ⟨p, q, hA0, hV, rfl, hfz, hnd⟩ := hW
  have hA : DataW.TrodAll enc Try.prog W 0 (fun _ => true) true Try.f6.params.toList args.toList ds p := hA0
  rw [Try.params6] at hA hval
  obtain ⟨v0, vs0, d0, ds0, p0, q0, hargs, rfl, rfl, h0, r0⟩ := trodAll_cons hA
  obtain ⟨rfl, rfl, rfl⟩ := trodAll_nil r0
  obtain rfl : args = #[v0] := by cases args; simp_all
  obtain ⟨rfl, rfl⟩ := trodVars_none hV
  obtain ⟨a0, len0, cap0, rfl⟩ := okWide_slice Try.underlying22 (hval 0 22 v0 rfl rfl)
  have k0 := h0
  have lt0 : ∀ x ∈ p0, x.block < W.heap.size := by obtain ⟨m, hm⟩ := k0; exact DataW.trod_lt m _ _ _ hm
  obtain ⟨z0, w0⟩ : ∃ zs, IsRow .u8 W a0 len0 cap0 zs := by
    obtain ⟨fuel, hf⟩ := h0
    rcases open_ints Try.underlying22 Try.underlying5 (by kernel_rfl) hf with ⟨hcs, _⟩ | ⟨x, l, c, zs, hcs, _, hl, hm, hz, _, hcell, hwz⟩
    · simp [Value.cells] at hcs
      obtain ⟨rfl, rfl, rfl⟩ := hcs
      exact ⟨[], .inl ⟨rfl, rfl, rfl, rfl⟩⟩
    · simp [Value.cells] at hcs
      obtain ⟨rfl, rfl, rfl⟩ := hcs
      exact ⟨zs, .inr ⟨_, rfl, hl, hm, by simpa using hz, hcell, hwz⟩⟩
  clear hA0 hval0
  refine (walk a0 len0 cap0 z0 W w0).mono fun e W' ⟨he, bel⟩ => ?_
  subst he
  exact ⟨_, rfl, _, _, _, [], _, [], hW', trodAll_mk1 (shut_bool Try.underlying4 _), (trodAll_cons_mk (Below.trod laidOut (by kernel_rfl) (of_decide_eq_true (by kernel_rfl)) k0 bel lt0) trodAll_mk0), rfl, bel.frame _, fun h => by cases h⟩

theorem over : Rows.fnLinesForRow.holds Try.pinned (OpenSpec.ofChange Rows.fnLinesForSpec) :=
  OpenClaim.holds_of_wide 6 Try.f6 rfl rfl rfl rfl rfl rfl rfl ⟨rfl, rfl, rfl, rfl, rfl⟩ rfl rfl rfl rfl rfl (by kernel_rfl) Try.func6 closed
    (of_decide_eq_true (by kernel_rfl)) (by unfold Func.isWrapper; rw [if_neg (of_decide_eq_false (by kernel_rfl))]; exact ⟨rfl, rfl⟩)
    (fun os started H enc _ => lifted os started H enc)

theorem proved : Rows.FnLinesForSaid := over
#print axioms proved
end Go.Proofs.Ytebodfciiikokaa.lLinesFor
