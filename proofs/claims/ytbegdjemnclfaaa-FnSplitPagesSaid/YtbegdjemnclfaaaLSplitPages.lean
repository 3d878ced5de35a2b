/- Whatever the bytes: FnSplitPages returns true, and changes nothing that was there. No conditions. -/
import Derived.Test.YtbegdjemnclfaaaLaw
import Derived.Test.YtbegdjemnclfaaaSDraw
import Derived.Test.YtbegdjemnclfaaaPiece
import Derived.Outline
namespace Go.Proofs.Ytbegdjemnclfaaa.lSplitPages
open Go.ChangeShapes Go.WideShapes Go.ChangeAt Go.RowKit
open Go.ChangeMaps (open_string shut_string)
set_option linter.unusedVariables false

set_option maxRecDepth 100000 in
set_option maxHeartbeats 2000000 in
theorem walk (a0 : Option Addr) (len0 cap0 : Nat) (z0 : List Int) (w : World) (w0 : IsRow .u8 w a0 len0 cap0 z0) :
    Calls Try.prog 9 #[.slice a0 len0 cap0] w fun e w' => e = .returned (.bool true) ∧ Below w.heap.size w w' := by
  by_cases hbig : 1048576 < len0
  · go_enter Try.func9, Try.ntmps9
    go_wp2
    go_ret
    exact ⟨rfl, by repeat first | exact bR | refine bA ?_⟩
  have hcap := row_cap w0
  have hby := Lib.hid (row_bytes w0)
  clear w0
  go_enter Try.func9, Try.ntmps9
  go_wp2_with fail
  refine (DrawSplitBytes_any a0 len0 cap0 w hby.out hcap (by omega)).mono ?_
  rintro e w1 ⟨s, q, o, b, rfl, hs, hq, ho, hbb, hb1⟩
  have HS := Lib.hid (And.intro hs (And.intro hq (And.intro ho hbb)))
  have HB := Lib.hid hb1
  clear hs hq ho hbb hb1
  obtain ⟨s1, s2, s3, s4⟩ := HS.out
  have hboxN := Own.new_ w1 44 #[.int .i64 s, .int .i64 q, .int .i64 o]
  have hbwN : Below w.heap.size w (w1.alloc (.cells #[.int .i64 s, .int .i64 q, .int .i64 o] 44)) := bA HB.out
  generalize hW : w1.alloc (.cells #[.int .i64 s, .int .i64 q, .int .i64 o] 44) = W1 at hboxN hbwN
  have HBOX := Lib.hid hboxN
  have hbx := hboxN.lt
  have K1 := SplitBytes_mine s q o b W1
  have K2 := fun W => sSplitBytes_any s q o b W
  have K4 := fun W => PagesOf_any s q o b W
  clear hboxN
  by_cases hv : pval s q o b = true
  case' pos =>
    have e0 : pcv s q o b = pcs q o b := if_pos hv
    have HPC : Hid (∀ k, k < pcn q o b → ∃ Y Z : Int, (pcs q o b)[k]? = some (q + k, Y, Z) ∧ 0 ≤ Y ∧ Y < 64 ∧ 1 ≤ Z ∧ Y + Z ≤ 64 ∧ (0 < k → Y = 0) ∧ (k + 1 < pcn q o b → Y + Z = 64) ∧ psum q o b (k + 1) = psum q o b k + Z ∧ (0 ≤ psum q o b k ∧ psum q o b k < 16384 ∧ q * 64 + o + psum q o b k = (q + k) * 64 + Y ∧ q * 64 + o + psum q o b k < 16384)) := by
      intro k hk
      obtain ⟨Y, Z, e, f1, f2, f3, f4, f5, f6, f7, f8⟩ := pc_facts hv hk
      obtain ⟨g1, g2⟩ := psum_succ hv hk e
      exact ⟨Y, Z, by rw [pcs_get q o b k hk, e], f1, f2, f3, f4, f5, f6, g1, g2⟩
    have HS0 : Hid (psum q o b 0 = 0) := psum_zero hv
    have HSE : Hid (psum q o b (pcn q o b) = b) := psum_end q o b
    have e1 : pfst s q o b = q := if_pos hv
    have e2 : plst s q o b = (q * 64 + o + b - 1) / 64 := if_pos hv
    obtain ⟨q1, q2, q3⟩ := pcn_le hv
    have hav := (pval_iff.1 hv).1
    have hbb0 := (pval_iff.1 hv).2
    obtain ⟨⟨hs0, hs16⟩, ⟨h6, h7⟩, h8, h9⟩ := aval_iff.1 hav
    have hlen := pcs_length q o b
    rw [e0, hv] at K1
    simp only [e0, hv] at K2
    simp only [e1, e2, hv] at K4
    rw [q3] at K4
    have HAV := Lib.hid hav
    clear e0 e1 e2 q3 hv hav
    generalize pcn q o b = N at *
    generalize pcs q o b = R at *
  case' neg =>
    have hv := bool_ff hv
    have e0 : pcv s q o b = [] := by unfold pcv; rw [hv]; rfl
    have e1 : pfst s q o b = 0 := by unfold pfst; rw [hv]; rfl
    have e2 : plst s q o b = 0 := by unfold plst; rw [hv]; rfl
    rw [e0, hv] at K1
    simp only [e0, hv] at K2
    clear e0 e1 e2 hv K4
    have hlen : ([] : List (Int × Int × Int)).length = 0 := rfl
    generalize ([] : List (Int × Int × Int)) = R at *
    have q1 : (0 : Nat) ≤ 256 := by omega
    generalize (0 : Nat) = N at hlen q1
  rotate_left
  · have H1 := Lib.hid K1
    have H2 := Lib.hid K2
    clear K1 K2
    have y0 := HBOX.out.cell_ 0 (v := .int .i64 s) rfl
    have y1 := HBOX.out.cell_ 1 (v := .int .i64 q) rfl
    have y2 := HBOX.out.cell_ 2 (v := .int .i64 o) rfl
    go_wp2_with fail
    refine H1.out.mono ?_
    rintro e w2 ⟨A2, c2, rfl, hlc2, hm2, hb2'⟩
    have hbw2 := bT hbwN hb2'
    have HBOX2 := Lib.hid (HBOX.out.below hb2')
    have HL2 := Lib.hid hm2.is
    clear y0 y1 y2 hm2
    have y0 := HBOX2.out.cell_ 0 (v := .int .i64 s) rfl
    have y1 := HBOX2.out.cell_ 1 (v := .int .i64 q) rfl
    have y2 := HBOX2.out.cell_ 2 (v := .int .i64 o) rfl
    go_wp2_with fail
    refine (H2.out _).mono ?_
    rintro e w3 ⟨A3, c3, rfl, hlc3, hr3, hb3'⟩
    have hbw3 := bT hbw2 hb3'
    have HBOX3 := Lib.hid (HBOX2.out.below hb3')
    have HL : Hid (Rs pieceE w2.heap.size w2 A2 R) := HL2
    have K3 := fun W (hw : Below w3.heap.size w3 W) => ipPieces_same A2 A3 c2 c3 R W ((HL.out.now (Nat.le_refl _) hb3').now (Nat.le_refl _) hw) (hr3.now (Nat.le_refl _) hw) (by omega)
    rw [hlen] at K3
    have H3 := Lib.hid K3
    rw [hlen]
    clear K3 hr3 y0 y1 y2
    go_wp2_with fail
    refine (H3.out _ bR).mono ?_
    rintro e w4 ⟨rfl, hb4'⟩
    have hbw4 := bT hbw3 hb4'
    have HBOX4 := Lib.hid (HBOX3.out.below hb4')
    have H4 := Lib.hid K4
    clear K4
    have y0 := HBOX4.out.cell_ 0 (v := .int .i64 s) rfl
    have y1 := HBOX4.out.cell_ 1 (v := .int .i64 q) rfl
    have y2 := HBOX4.out.cell_ 2 (v := .int .i64 o) rfl
    go_wp2_with fail
    refine (H4.out _).mono ?_
    rintro e w5 ⟨rfl, hb5'⟩
    have hbw5 := bT hbw4 hb5'
    have HBOX5 := Lib.hid (HBOX4.out.below hb5')
    clear y0 y1 y2
    go_wp2
    go_loopw [12] (fun u wr => ∃ k : Nat, k ≤ N ∧ u = .int .i64 k ∧ Below w5.heap.size w5 wr) (fun u _ => N - (intOf u).toNat)
    case atStart => exact ⟨0, by omega, rfl, bR⟩
    case round =>
      obtain ⟨k, hk, rfl, hb⟩ := hrel
      by_cases hlt : k < N
      · obtain ⟨Y, Z, e1, f0, f1, f2, f3, f4, f5, f6, f7⟩ := HPC.out k hlt
        obtain ⟨b2, o2, rfl, hbb2, c1, c2, c3⟩ := ((HL.out.now (Nat.le_refl _) (bT hb3' (bT hb4' hb5'))).now (Nat.le_refl _) hb).piece e1
        have k1 : IntKind.i64.wrap (Y + Z) = Y + Z := IntWalk.i64_in _ (by omega)
        have k2 : IntKind.i64.wrap (q + (k : Int)) = q + (k : Int) := IntWalk.i64_in _ (by omega)
        have k3 : IntKind.i64.wrap ((k : Int) + 1) = (k : Int) + 1 := IntWalk.i64_in _ (by omega)
        clear e1 f6 f7
        by_cases h0 : 0 < k
        · have hY := f4 h0
          have g0 : (0 : Int) < (k : Int) := by omega
          by_cases h1 : k + 1 < N
          · have hZ := f5 h1
            have g1 : (k : Int) + 1 < (N : Int) := by omega
            obtain rfl : Y = 0 := hY
            obtain rfl : Z = 64 := by omega
            clear f4 f5
            go_wp2
            go_quiet (fail)
            go_wp2
            go_roundw
            case rel => exact ⟨k + 1, by omega, by go_num, bDN hb⟩
            case measure => simp [intOf]; omega
          · have g1 : decide ((k : Int) + 1 < (N : Int)) = false := by simp; omega
            obtain rfl : Y = 0 := hY
            clear f4 f5
            go_wp2
            go_quiet (fail)
            go_wp2
            go_roundw
            case rel => exact ⟨k + 1, by omega, by go_num, bDN hb⟩
            case measure => simp [intOf]; omega
        · have g0 : decide ((0 : Int) < (k : Int)) = false := by simp; omega
          by_cases h1 : k + 1 < N
          · have hZ := f5 h1
            have g1 : (k : Int) + 1 < (N : Int) := by omega
            obtain rfl : Z = 64 - Y := by omega
            have k4 : Y + (64 - Y) = 64 := by omega
            clear f4 f5
            go_wp2
            go_quiet (fail)
            go_wp2
            go_roundw
            case rel => exact ⟨k + 1, by omega, by go_num, bDN hb⟩
            case measure => simp [intOf]; omega
          · have g1 : decide ((k : Int) + 1 < (N : Int)) = false := by simp; omega
            clear f4 f5
            go_wp2
            go_quiet (fail)
            go_wp2
            go_roundw
            case rel => exact ⟨k + 1, by omega, by go_num, bDN hb⟩
            case measure => simp [intOf]; omega
      · obtain rfl : k = N := by omega
        have k1 : IntKind.i64.wrap (q + (k : Int) - 1 - q) = (k : Int) - 1 := by rw [show q + (k : Int) - 1 - q = k - 1 by omega]; exact IntWalk.i64_in _ (by omega)
        have k2 : IntKind.i64.wrap ((k : Int) - 1 + 1) = (k : Int) := by rw [show (k : Int) - 1 + 1 = k by omega]; exact IntWalk.i64_in _ (by omega)
        go_wp2
        go_ret
        exact ⟨rfl, bT hbw5 hb⟩
  · have H1 := Lib.hid K1
    have H2 := Lib.hid K2
    clear K1 K2
    have y0 := HBOX.out.cell_ 0 (v := .int .i64 s) rfl
    have y1 := HBOX.out.cell_ 1 (v := .int .i64 q) rfl
    have y2 := HBOX.out.cell_ 2 (v := .int .i64 o) rfl
    go_wp2_with fail
    refine H1.out.mono ?_
    rintro e w2 ⟨A2, c2, rfl, hlc2, hm2, hb2'⟩
    have hbw2 := bT hbwN hb2'
    have HBOX2 := Lib.hid (HBOX.out.below hb2')
    have HL2 := Lib.hid hm2.is
    clear y0 y1 y2 hm2
    have y0 := HBOX2.out.cell_ 0 (v := .int .i64 s) rfl
    have y1 := HBOX2.out.cell_ 1 (v := .int .i64 q) rfl
    have y2 := HBOX2.out.cell_ 2 (v := .int .i64 o) rfl
    go_wp2_with fail
    refine (H2.out _).mono ?_
    rintro e w3 ⟨A3, c3, rfl, hlc3, hr3, hb3'⟩
    have hbw3 := bT hbw2 hb3'
    have HBOX3 := Lib.hid (HBOX2.out.below hb3')
    have HL : Hid (Rs pieceE w2.heap.size w2 A2 R) := HL2
    have K3 := fun W (hw : Below w3.heap.size w3 W) => ipPieces_same A2 A3 c2 c3 R W ((HL.out.now (Nat.le_refl _) hb3').now (Nat.le_refl _) hw) (hr3.now (Nat.le_refl _) hw) (by omega)
    rw [hlen] at K3
    have H3 := Lib.hid K3
    rw [hlen]
    clear K3 hr3 y0 y1 y2
    go_wp2_with fail
    refine (H3.out _ bR).mono ?_
    rintro e w4 ⟨rfl, hb4'⟩
    have hbw4 := bT hbw3 hb4'
    have HBOX4 := Lib.hid (HBOX3.out.below hb4')
    go_wp2_with fail
    refine (H3.out _ hb4').mono ?_
    rintro e w5 ⟨rfl, hb5'⟩
    go_wp2
    go_ret
    exact ⟨rfl, bT hbw4 hb5'⟩

set_option maxRecDepth 100000 in
theorem closed : joinedFacts Try.prog 9 Try.f9 Rows.fnSplitPagesSpec Rows.fnSplitPagesRow = true := by
  unfold joinedFacts
  rw [may_enter, lifts_final, make_cut]
  refine Eq.trans ?_ (Eq.refl _)
  kernel_rfl
set_option maxRecDepth 100000 in
theorem lifted (os : Os) (started : os.Started) (H : Type) (enc : TypeId × Value → H) :
    ReturnsInHanded {} Try.checked os 9 .any (Rows.fnSplitPagesSpec.pre6 enc Try.prog Try.f9 Rows.fnSplitPagesRow.domain false) (Rows.fnSplitPagesSpec.post enc Try.prog Try.f9 false true false false) := by
  refine returnsInHanded_of_change (C := Try.checked) own started (by kernel_rfl) Try.func9
    (ChangeSpec.witness6 (enc := enc) (C := Try.checked) false ⟨#[], #[.slice none 0 0], []⟩ 8 (by kernel_rfl) (by kernel_rfl) (by kernel_rfl) (by kernel_rfl)) ?_
  intro W base args ds gs before hval0 hW hcnd _
  have hval : ∀ (j : Nat) t v, Try.f9.params[j]? = some t → args[j]? = some v → Value.okWide Try.prog W .any base t v := hval0
  have hW' := hW
  obtain ⟨p, q, hA0, hV, rfl, hfz, hnd⟩ := hW
  have hA : DataW.TrodAll enc Try.prog W 0 (fun _ => true) true Try.f9.params.toList args.toList ds p := hA0
  rw [Try.params9] at hA hval
  obtain ⟨v0, vs0, d0, ds0, p0, q0, hargs, rfl, rfl, h0, r0⟩ := trodAll_cons hA
  obtain ⟨rfl, rfl, rfl⟩ := trodAll_nil r0
  obtain rfl : args = #[v0] := by cases args; simp_all
  obtain ⟨rfl, rfl⟩ := trodVars_none hV
  obtain ⟨a0, len0, cap0, rfl⟩ := okWide_slice Try.underlying22 (hval 0 22 v0 rfl rfl)
  have k0 := h0
  have lt0 : ∀ x ∈ p0, x.block < W.heap.size := by obtain ⟨m, hm⟩ := k0; exact DataW.trod_lt m _ _ _ hm
  obtain ⟨z0, w0⟩ : ∃ zs, IsRow .u8 W a0 len0 cap0 zs := by
    obtain ⟨fuel, hf⟩ := h0
    rcases open_ints Try.underlying22 Try.underlying5 (by kernel_rfl) hf with ⟨hcs, _⟩ | ⟨x, l, c, zs, hcs, _, hl, hm, hz, _, hcell, hwz⟩
    · simp [Value.cells] at hcs
      obtain ⟨rfl, rfl, rfl⟩ := hcs
      exact ⟨[], .inl ⟨rfl, rfl, rfl, rfl⟩⟩
    · simp [Value.cells] at hcs
      obtain ⟨rfl, rfl, rfl⟩ := hcs
      exact ⟨zs, .inr ⟨_, rfl, hl, hm, by simpa using hz, hcell, hwz⟩⟩
  clear hA0 hval0
  refine (walk a0 len0 cap0 z0 W w0).mono fun e W' ⟨he, bel⟩ => ?_
  subst he
  exact ⟨_, rfl, _, _, _, [], _, [], hW', trodAll_mk1 (shut_bool Try.underlying4 _), (trodAll_cons_mk (Below.trod laidOut (by kernel_rfl) (of_decide_eq_true (by kernel_rfl)) k0 bel lt0) trodAll_mk0), rfl, bel.frame _, fun h => by cases h⟩

theorem over : Rows.fnSplitPagesRow.holds Try.pinned (OpenSpec.ofChange Rows.fnSplitPagesSpec) :=
  OpenClaim.holds_of_wide 9 Try.f9 rfl rfl rfl rfl rfl rfl rfl ⟨rfl, rfl, rfl, rfl, rfl⟩ rfl rfl rfl rfl rfl (by kernel_rfl) Try.func9 closed
    (of_decide_eq_true (by kernel_rfl)) (by unfold Func.isWrapper; rw [if_neg (of_decide_eq_false (by kernel_rfl))]; exact ⟨rfl, rfl⟩)
    (fun os started H enc _ => lifted os started H enc)

theorem proved : Rows.FnSplitPagesSaid := over
#print axioms proved
end Go.Proofs.Ytbegdjemnclfaaa.lSplitPages
