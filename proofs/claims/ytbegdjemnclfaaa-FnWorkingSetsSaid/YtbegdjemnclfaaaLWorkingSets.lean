/- Whatever the bytes: FnWorkingSets returns true, and changes nothing that was there. No conditions. -/
import Derived.Test.YtbegdjemnclfaaaLaw
import Derived.Test.YtbegdjemnclfaaaSWork
namespace Go.Proofs.Ytbegdjemnclfaaa.lWorkingSets
open Go.ChangeShapes Go.WideShapes Go.ChangeAt Go.RowKit
open Go.ChangeMaps (open_string shut_string)
set_option linter.unusedVariables false

set_option maxRecDepth 100000 in
set_option maxHeartbeats 2000000 in
theorem walk (a0 : Option Addr) (len0 cap0 : Nat) (z0 : List Int) (w : World) (w0 : IsRow .u8 w a0 len0 cap0 z0) :
    Calls Try.prog 4 #[.slice a0 len0 cap0] w fun e w' => e = .returned (.bool true) ∧ Below w.heap.size w w' := by
  by_cases hbig : 1048576 < len0
  · go_enter Try.func4, Try.ntmps4
    go_wp2
    go_ret
    exact ⟨rfl, bR⟩
  have hcap := row_cap w0
  have hby := Lib.hid (row_bytes w0)
  clear w0
  go_enter Try.func4, Try.ntmps4
  go_wp2_with fail
  refine (DrawWorkingSets_any a0 len0 cap0 w hby.out hcap (by omega)).mono ?_
  rintro e w1 ⟨A, c, l, n, rfl, hks, hlc, hl, hn1, hn2, hb1⟩
  have HKS := Lib.hid hks
  have HB := Lib.hid hb1
  clear hks hb1
  have K1 := fun W (hw : Below w1.heap.size w1 W) => WorkingSets_any A c l n W (HKS.out.now (Nat.le_refl _) hw) hlc (by omega) (by omega) (by omega)
  have K2 := fun W (hw : Below w1.heap.size w1 W) => sWorkingSets_any A c l n W (HKS.out.now (Nat.le_refl _) hw) (by omega)
  by_cases hv : wval l n = true
  · obtain ⟨h1, hall, h40, hn1', hn40⟩ := wval_parts hv
    have K4 := fun W (hw : Below w1.heap.size w1 W) => WorkingSets_any A c l (n + 1) W (HKS.out.now (Nat.le_refl _) hw) hlc (by omega) (by omega) (by omega)
    have e0 : wsv l n = wsl l n := by unfold wsv; rw [if_pos hv]
    simp only [e0, hv, wsl_length] at K1 K2
    have hwn : IntKind.i64.wrap (n + 1) = n + 1 := IntWalk.i64_in _ (by omega)
    by_cases hn : n < 40
    · have hv4 : wval l (n + 1) = true := by
        unfold wval
        rw [h1, Bool.true_and, Bool.and_eq_true, decide_eq_true_eq, decide_eq_true_eq]
        omega
      have e4 : wsv l (n + 1) = wsl l (n + 1) := by unfold wsv; rw [if_pos hv4]
      simp only [e4, hv4, wsl_length] at K4
      have H1 := Lib.hid K1
      have H2 := Lib.hid K2
      have H4 := Lib.hid K4
      clear K1 K2 K4 e0 e4 hv4 hv h1 hall hn
      go_wp2_with fail
      refine (H1.out _ bR).mono ?_
      rintro e w2 ⟨A2, c2, rfl, _, his2, hb2'⟩
      have hb2 := bT bR hb2'
      go_wp2_with fail
      refine (H2.out _ hb2).mono ?_
      rintro e w3 ⟨A3, c3, rfl, _, his3, hb3'⟩
      have hb3 := bT hb2 hb3'
      have K3 := fun W (hw : Below w3.heap.size w3 W) => ipInts_same A2 A3 c2 c3 (wsl l n) W ((his2.now (Nat.le_refl _) hb3').now (Nat.le_refl _) hw) (his3.now (Nat.le_refl _) hw) (by rw [wsl_length]; omega)
      rw [wsl_length] at K3
      have HIS := Lib.hid (his2.now (Nat.le_refl _) hb3')
      have H3 := Lib.hid K3
      clear K3 his2 his3
      go_wp2_with fail
      refine (H3.out _ bR).mono ?_
      rintro e w4 ⟨rfl, hb4⟩
      have hbw4 := bT hb3 hb4
      go_wp2_with fail
      refine (H4.out _ hbw4).mono ?_
      rintro e w5 ⟨A5, c5, rfl, _, his5, hb5'⟩
      have hb5 := bT hbw4 hb5'
      have HI5 := Lib.hid his5
      have hb36 := bT hb4 hb5'
      clear his5
      go_wp2
      go_loopw [11] (fun u wr => ∃ k : Nat, k ≤ l.length ∧ u = .int .i64 k ∧ Below w5.heap.size w5 wr) (fun u _ => l.length - (intOf u).toNat)
      case atStart => exact ⟨0, by omega, rfl, bR⟩
      case round =>
        obtain ⟨k, hk, rfl, hb⟩ := hrel
        by_cases hlt : k < l.length
        case neg =>
          go_wp2
          go_ret
          exact ⟨rfl, bT HB.out (bT hb5 hb)⟩
        case pos =>
          obtain ⟨b2, o2, v2, rfl, hbb2, d2, g2⟩ := ((HIS.out.now (Nat.le_refl _) hb36).now (Nat.le_refl _) hb).int (k := k) (by rw [wsl_length]; exact hlt)
          rw [wsl_get l _ k hlt] at g2
          injection g2 with g2
          subst g2
          have hp := Tr.wset_pos (tr := l) n.toNat k (by omega) hlt
          have hle := Tr.wset_le (tr := l) n.toNat k
          have hk1 : IntKind.i64.wrap ((k : Int) + 1) = (k : Int) + 1 := IntWalk.i64_in _ (by omega)
          have hc1 : IntKind.i64.wrap ((Tr.wset l n.toNat k : Int) + 1) = (Tr.wset l n.toNat k : Int) + 1 := IntWalk.i64_in _ (by omega)
          obtain ⟨b5, o5, v5, rfl, hbb5, d5, g5⟩ := (HI5.out.now (Nat.le_refl _) hb).int (k := k) (by rw [wsl_length]; exact hlt)
          rw [wsl_get l _ k hlt, show (n + 1).toNat = n.toNat + 1 by omega] at g5
          injection g5 with g5
          subst g5
          have hm1 : Tr.wset l n.toNat k ≤ Tr.wset l (n.toNat + 1) k := Tr.wset_mono _ _ _ (by omega)
          have hm2 : Tr.wset l (n.toNat + 1) k ≤ Tr.wset l n.toNat k + 1 := Tr.wset_more _ _
          generalize Tr.wset l (n.toNat + 1) k = C2 at *
          generalize Tr.wset l n.toNat k = C1 at *
          go_wp2
          have q5 : decide ((C2 : Int) < (C1 : Int)) = false := by simp; omega
          have q7 : decide ((C1 : Int) + 1 < (C2 : Int)) = false := by simp; omega
          have q8 : decide (C2 < C1) = false := by simp; omega
          have q9 : decide (C1 + 1 < C2) = false := by simp; omega
          try go_wp2
          have q1 : decide ((C1 : Int) < 1) = false := by simp; omega
          have q2 : decide (n < (C1 : Int)) = false := by simp; omega
          have q4 : decide ((k : Int) + 1 < (C1 : Int)) = false := by simp; omega
          clear hp hle
          go_quiet (fail)
          go_wp2
          go_roundw
          case rel => exact ⟨k + 1, by omega, by go_num, bDN hb⟩
          case measure => simp [intOf]; omega
    · have hv4 : wval l (n + 1) = false := by
        unfold wval
        rw [Bool.and_eq_false_iff, decide_eq_false_iff_not]
        omega
      have e4 : wsv l (n + 1) = [] := by unfold wsv; rw [hv4]; rfl
      simp only [e4, hv4, List.length_nil] at K4
      have H1 := Lib.hid K1
      have H2 := Lib.hid K2
      have H4 := Lib.hid K4
      clear K1 K2 K4 e0 e4 hv4 hv h1 hall hn
      go_wp2_with fail
      refine (H1.out _ bR).mono ?_
      rintro e w2 ⟨A2, c2, rfl, _, his2, hb2'⟩
      have hb2 := bT bR hb2'
      go_wp2_with fail
      refine (H2.out _ hb2).mono ?_
      rintro e w3 ⟨A3, c3, rfl, _, his3, hb3'⟩
      have hb3 := bT hb2 hb3'
      have K3 := fun W (hw : Below w3.heap.size w3 W) => ipInts_same A2 A3 c2 c3 (wsl l n) W ((his2.now (Nat.le_refl _) hb3').now (Nat.le_refl _) hw) (his3.now (Nat.le_refl _) hw) (by rw [wsl_length]; omega)
      rw [wsl_length] at K3
      have HIS := Lib.hid (his2.now (Nat.le_refl _) hb3')
      have H3 := Lib.hid K3
      clear K3 his2 his3
      go_wp2_with fail
      refine (H3.out _ bR).mono ?_
      rintro e w4 ⟨rfl, hb4⟩
      have hbw4 := bT hb3 hb4
      go_wp2_with fail
      refine (H4.out _ hbw4).mono ?_
      rintro e w5 ⟨A5, c5, rfl, _, his5, hb5'⟩
      have hb5 := bT hbw4 hb5'
      have HI5 := Lib.hid his5
      have hb36 := bT hb4 hb5'
      clear his5
      go_wp2
      go_loopw [11] (fun u wr => ∃ k : Nat, k ≤ l.length ∧ u = .int .i64 k ∧ Below w5.heap.size w5 wr) (fun u _ => l.length - (intOf u).toNat)
      case atStart => exact ⟨0, by omega, rfl, bR⟩
      case round =>
        obtain ⟨k, hk, rfl, hb⟩ := hrel
        by_cases hlt : k < l.length
        case neg =>
          go_wp2
          go_ret
          exact ⟨rfl, bT HB.out (bT hb5 hb)⟩
        case pos =>
          obtain ⟨b2, o2, v2, rfl, hbb2, d2, g2⟩ := ((HIS.out.now (Nat.le_refl _) hb36).now (Nat.le_refl _) hb).int (k := k) (by rw [wsl_length]; exact hlt)
          rw [wsl_get l _ k hlt] at g2
          injection g2 with g2
          subst g2
          have hp := Tr.wset_pos (tr := l) n.toNat k (by omega) hlt
          have hle := Tr.wset_le (tr := l) n.toNat k
          have hk1 : IntKind.i64.wrap ((k : Int) + 1) = (k : Int) + 1 := IntWalk.i64_in _ (by omega)
          have hc1 : IntKind.i64.wrap ((Tr.wset l n.toNat k : Int) + 1) = (Tr.wset l n.toNat k : Int) + 1 := IntWalk.i64_in _ (by omega)
          generalize Tr.wset l n.toNat k = C1 at *
          try go_wp2
          have q1 : decide ((C1 : Int) < 1) = false := by simp; omega
          have q2 : decide (n < (C1 : Int)) = false := by simp; omega
          have q4 : decide ((k : Int) + 1 < (C1 : Int)) = false := by simp; omega
          clear hp hle
          go_quiet (fail)
          go_wp2
          go_roundw
          case rel => exact ⟨k + 1, by omega, by go_num, bDN hb⟩
          case measure => simp [intOf]; omega
  · · have hv : wval l n = false := by simpa using hv
      have hcv : wsv l n = [] := by unfold wsv; rw [hv]; rfl
      simp only [hcv, hv, List.length_nil] at K1 K2
      have H1 := Lib.hid K1
      have H2 := Lib.hid K2
      clear K1 K2 hcv
      go_wp2_with fail
      refine (H1.out _ bR).mono ?_
      rintro e w2 ⟨A2, c2, rfl, _, his2, hb2'⟩
      have hb2 := bT bR hb2'
      go_wp2_with fail
      refine (H2.out _ hb2).mono ?_
      rintro e w3 ⟨A3, c3, rfl, _, his3, hb3'⟩
      have hb3 := bT hb2 hb3'
      have K3 := fun W (hw : Below w3.heap.size w3 W) => ipInts_same A2 A3 c2 c3 [] W ((his2.now (Nat.le_refl _) hb3').now (Nat.le_refl _) hw) (his3.now (Nat.le_refl _) hw) (by simp)
      simp only [List.length_nil] at K3
      have H3 := Lib.hid K3
      clear K3 his2 his3
      go_wp2_with fail
      refine (H3.out _ bR).mono ?_
      rintro e w4 ⟨rfl, hb4⟩
      go_wp2_with fail
      refine (H3.out _ hb4).mono ?_
      rintro e w5 ⟨rfl, hb5⟩
      go_wp2
      go_ret
      exact ⟨rfl, bT HB.out (bT hb3 (bT hb4 hb5))⟩

set_option maxRecDepth 100000 in
theorem closed : joinedFacts Try.prog 4 Try.f4 Rows.fnWorkingSetsSpec Rows.fnWorkingSetsRow = true := by
  unfold joinedFacts
  rw [may_enter, lifts_final, make_cut]
  refine Eq.trans ?_ (Eq.refl _)
  kernel_rfl
set_option maxRecDepth 100000 in
theorem lifted (os : Os) (started : os.Started) (H : Type) (enc : TypeId × Value → H) :
    ReturnsInHanded {} Try.checked os 4 .any (Rows.fnWorkingSetsSpec.pre6 enc Try.prog Try.f4 Rows.fnWorkingSetsRow.domain false) (Rows.fnWorkingSetsSpec.post enc Try.prog Try.f4 false true false false) := by
  refine returnsInHanded_of_change (C := Try.checked) own started (by kernel_rfl) Try.func4
    (ChangeSpec.witness6 (enc := enc) (C := Try.checked) false ⟨#[], #[.slice none 0 0], []⟩ 8 (by kernel_rfl) (by kernel_rfl) (by kernel_rfl) (by kernel_rfl)) ?_
  intro W base args ds gs before hval0 hW hcnd _
  have hval : ∀ (j : Nat) t v, Try.f4.params[j]? = some t → args[j]? = some v → Value.okWide Try.prog W .any base t v := hval0
  have hW' := hW
  obtain ⟨p, q, hA0, hV, rfl, hfz, hnd⟩ := hW
  have hA : DataW.TrodAll enc Try.prog W 0 (fun _ => true) true Try.f4.params.toList args.toList ds p := hA0
  rw [Try.params4] at hA hval
  obtain ⟨v0, vs0, d0, ds0, p0, q0, hargs, rfl, rfl, h0, r0⟩ := trodAll_cons hA
  obtain ⟨rfl, rfl, rfl⟩ := trodAll_nil r0
  obtain rfl : args = #[v0] := by cases args; simp_all
  obtain ⟨rfl, rfl⟩ := trodVars_none hV
  obtain ⟨a0, len0, cap0, rfl⟩ := okWide_slice Try.underlying22 (hval 0 22 v0 rfl rfl)
  have k0 := h0
  have lt0 : ∀ x ∈ p0, x.block < W.heap.size := by obtain ⟨m, hm⟩ := k0; exact DataW.trod_lt m _ _ _ hm
  obtain ⟨z0, w0⟩ : ∃ zs, IsRow .u8 W a0 len0 cap0 zs := by
    obtain ⟨fuel, hf⟩ := h0
    rcases open_ints Try.underlying22 Try.underlying5 (by kernel_rfl) hf with ⟨hcs, _⟩ | ⟨x, l, c, zs, hcs, _, hl, hm, hz, _, hcell, hwz⟩
    · simp [Value.cells] at hcs
      obtain ⟨rfl, rfl, rfl⟩ := hcs
      exact ⟨[], .inl ⟨rfl, rfl, rfl, rfl⟩⟩
    · simp [Value.cells] at hcs
      obtain ⟨rfl, rfl, rfl⟩ := hcs
      exact ⟨zs, .inr ⟨_, rfl, hl, hm, by simpa using hz, hcell, hwz⟩⟩
  clear hA0 hval0
  refine (walk a0 len0 cap0 z0 W w0).mono fun e W' ⟨he, bel⟩ => ?_
  subst he
  exact ⟨_, rfl, _, _, _, [], _, [], hW', trodAll_mk1 (shut_bool Try.underlying4 _), (trodAll_cons_mk (Below.trod laidOut (by kernel_rfl) (of_decide_eq_true (by kernel_rfl)) k0 bel lt0) trodAll_mk0), rfl, bel.frame _, fun h => by cases h⟩

theorem over : Rows.fnWorkingSetsRow.holds Try.pinned (OpenSpec.ofChange Rows.fnWorkingSetsSpec) :=
  OpenClaim.holds_of_wide 4 Try.f4 rfl rfl rfl rfl rfl rfl rfl ⟨rfl, rfl, rfl, rfl, rfl⟩ rfl rfl rfl rfl rfl (by kernel_rfl) Try.func4 closed
    (of_decide_eq_true (by kernel_rfl)) (by unfold Func.isWrapper; rw [if_neg (of_decide_eq_false (by kernel_rfl))]; exact ⟨rfl, rfl⟩)
    (fun os started H enc _ => lifted os started H enc)

theorem proved : Rows.FnWorkingSetsSaid := over
#print axioms proved
end Go.Proofs.Ytbegdjemnclfaaa.lWorkingSets
