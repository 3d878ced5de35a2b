/- Whatever the bytes: FnTwiceTrace returns true, and changes nothing that was there. No conditions. -/
import Derived.Test.YtmamjddhcbhdoaaLaw
import Derived.Test.YtmamjddhcbhdoaaSpec2
namespace Go.Proofs.Ytmamjddhcbhdoaa.lTwice
open Go.ChangeShapes Go.WideShapes Go.ChangeAt Go.RowKit
open Go.ChangeMaps (open_string shut_string)
set_option linter.unusedVariables false

set_option maxHeartbeats 1000000 in
theorem walk (a0 : Option Addr) (len0 cap0 : Nat) (z0 : List Int) (w : World) (w0 : IsRow .u8 w a0 len0 cap0 z0) :
    Calls Try.prog 4 #[.slice a0 len0 cap0] w fun e w' => e = .returned (.bool true) ∧ Below w.heap.size w w' := by
  by_cases hbig : 1048576 < len0
  · go_enter Try.func4, Try.ntmps4
    go_wp2
    go_ret
    exact ⟨rfl, bR⟩
  have hcap := row_cap w0
  have hby := Lib.hid (row_bytes w0)
  clear w0
  go_enter Try.func4, Try.ntmps4
  go_wp2_with fail
  refine (DrawHitsLru_any a0 len0 cap0 w hby.out hcap (by omega)).mono ?_
  rintro e w1 ⟨A, c, l, n, rfl, hks, hlc, hl, hn1, hn2, hb1⟩
  have HKS := Lib.hid hks
  have HB := Lib.hid hb1
  clear hks hb1
  have K1 := fun W (hw : Below w1.heap.size w1 W) => HitsLru_any A c l n W (HKS.out.now (Nat.le_refl _) hw) hlc (by omega)
  have K2 := fun W (hw : Below w1.heap.size w1 W) => sHitsLru_any A c l n W (HKS.out.now (Nat.le_refl _) hw) (by omega)
  by_cases hr : rval l n = true
  · have hC : cval Tr.lru l n = (Tr.lru l n.toNat : Int) := by unfold cval; rw [if_pos hr]
    obtain ⟨h1, h2, h40, hn1', hn8⟩ := rval_parts hr
    have hle : Tr.lru l n.toNat ≤ l.length := Tr.hst_hits _
    simp only [hr, hC] at K1 K2
    by_cases hlen : 2 * l.length ≤ 40
    · have hr2 : rval (l ++ l) n = true := by
        unfold rval tval at *
        simp only [Bool.and_eq_true, decide_eq_true_eq] at h1 ⊢
        exact ⟨⟨by rw [List.length_append]; omega, by rw [List.all_append, h1.2]; rfl⟩, h2⟩
      have hC2 : cval Tr.lru (l ++ l) n = (Tr.lru (l ++ l) n.toNat : Int) := by unfold cval; rw [if_pos hr2]
      have htw := Tr.lru_twice (tr := l) n.toNat (by omega)
      have hle2 : Tr.lru (l ++ l) n.toNat ≤ (l ++ l).length := Tr.hst_hits _
      rw [List.length_append] at hle2
      have HR2 := Lib.hid hr2
      have HC2 := Lib.hid hC2
      generalize Tr.lru l n.toNat = C1 at *
      have H1 := Lib.hid K1
      have H2 := Lib.hid K2
      clear K1 K2 hr hr2 hC hC2 h1 h2
      go_wp2_with fail
      refine (H1.out _ bR).mono ?_
      rintro e w2 ⟨rfl, hb2'⟩
      have hb2 := bT bR hb2'
      go_wp2_with fail
      refine (H2.out _ hb2).mono ?_
      rintro e w3 ⟨rfl, hb3'⟩
      have hb3 := bT hb2 hb3'
      obtain ⟨i0, hi0, hz0, hz1, hz2⟩ := info_parts key_info
      have hm1 : 0 + l.length ≤ maxLen := by simp only [maxLen]; omega
      have hm2 : 0 + l.length + l.length ≤ maxLen := by simp only [maxLen]; omega
      obtain ⟨v5, w5, hrun5, hown5, hg5, _⟩ := run_append_rd (P := Try.prog) (w3.alloc (.cells #[] 35)) w3.heap.size 23 23 35 i0 _ 2 16 Try.underlying23 hi0 hz0 hz1 hz2 rfl (by omega)
        (.slice (some ⟨w3.heap.size, 0, none⟩) 0 0) 0 [] (World.ownsRow_made w3 #[] 0 (Nat.le_refl _) (by simp [maxLen]) rfl) w1.heap.size A l.length c (kcells l) ((HKS.out.below (hb3.trans ((Below.refl _ _).alloc hb3.size (.cells #[] 35))))) (kcells_one _) hm1 (by omega) (by simp)
      have hb5 : Below w3.heap.size w3 w5 := bG (bA bR) hg5 (by intro k hk; simp [Value.ownBlock] at hk; omega)
      obtain ⟨v6, w6, hrun6, hown6, hg6, _⟩ := run_append_rd (P := Try.prog) w5 w3.heap.size 23 23 35 i0 _ 2 16 Try.underlying23 hi0 hz0 hz1 hz2 rfl (by omega)
        v5 (0 + l.length) ([] ++ kcells l) hown5 w1.heap.size A l.length c (kcells l) (HKS.out.below (bT hb3 hb5)) (kcells_one _) hm2 (by omega) hb5.size
      have hb6 : Below w3.heap.size w3 w6 := bG hb5 hg6 (own_block hown5)
      have hown7 : w6.ownsRow w3.heap.size 35 2 v6 (l ++ l).length (kcells (l ++ l)) := by
        rw [List.nil_append, ← kcells_append, show 0 + l.length + l.length = (l ++ l).length by rw [List.length_append]; omega] at hown6
        exact hown6
      obtain ⟨A6, c6, rfl, hlc6, hks6⟩ := ks_of_own hown7
      have K3 := HitsLru_any A6 c6 (l ++ l) n w6 hks6 hlc6 (by rw [List.length_append]; omega)
      simp only [HR2.out, HC2.out, List.length_append] at K3
      generalize Tr.lru (l ++ l) n.toNat = C2 at *
      have h2c : (2 : Int) * (C1 : Int) ≤ (C2 : Int) := by omega
      have H3 := Lib.hid K3
      have HB6 := Lib.hid (bT hb3 hb6)
      have HR5 := Lib.hid hrun5
      have HR6 := Lib.hid hrun6
      clear K3 hown5 hown6 hown7 hks6 hg5 hg6 hb5 hb6 hrun5 hrun6
      go_wp2_with (first
        | (at_builtin; refine wpList_append_run _ rfl (.tmp 58) (.tmp 59) 23 rfl _ _ _ _ rfl rfl HR5.out ?_)
        | (at_builtin; refine wpList_append_run _ rfl (.tmp 60) (.tmp 61) 23 rfl _ _ _ _ rfl rfl HR6.out ?_))
      refine H3.out.mono ?_
      rintro e w7 ⟨rfl, hb7⟩
      go_wp2
      go_ret
      exact ⟨rfl, bT HB.out (bT HB6.out hb7)⟩
    · generalize Tr.lru l n.toNat = C1 at *
      have H1 := Lib.hid K1
      have H2 := Lib.hid K2
      clear K1 K2 hr hC h1 h2
      go_wp2_with fail
      refine (H1.out _ bR).mono ?_
      rintro e w2 ⟨rfl, hb2'⟩
      have hb2 := bT bR hb2'
      go_wp2_with fail
      refine (H2.out _ hb2).mono ?_
      rintro e w3 ⟨rfl, hb3'⟩
      have hb3 := bT hb2 hb3'
      go_wp2
      go_ret
      exact ⟨rfl, bT HB.out hb3⟩
  · have hr' : rval l n = false := by simpa using hr
    have hC : cval Tr.lru l n = 0 := by unfold cval; rw [if_neg hr]
    simp only [hr', hC] at K1 K2
    have H1 := Lib.hid K1
    have H2 := Lib.hid K2
    clear K1 K2 hr hr' hC
    go_wp2_with fail
    refine (H1.out _ bR).mono ?_
    rintro e w2 ⟨rfl, hb2'⟩
    have hb2 := bT bR hb2'
    go_wp2_with fail
    refine (H2.out _ hb2).mono ?_
    rintro e w3 ⟨rfl, hb3'⟩
    have hb3 := bT hb2 hb3'
    go_wp2
    go_ret
    exact ⟨rfl, bT HB.out hb3⟩

set_option maxRecDepth 100000 in
theorem closed : joinedFacts Try.prog 4 Try.f4 Rows.fnTwiceTraceSpec Rows.fnTwiceTraceRow = true := by
  unfold joinedFacts
  rw [may_enter, lifts_final, make_cut]
  refine Eq.trans ?_ (Eq.refl _)
  kernel_rfl
set_option maxRecDepth 100000 in
theorem lifted (os : Os) (started : os.Started) (H : Type) (enc : TypeId × Value → H) :
    ReturnsInHanded {} Try.checked os 4 .any (Rows.fnTwiceTraceSpec.pre6 enc Try.prog Try.f4 Rows.fnTwiceTraceRow.domain false) (Rows.fnTwiceTraceSpec.post enc Try.prog Try.f4 false true false false) := by
  refine returnsInHanded_of_change (C := Try.checked) own started (by kernel_rfl) Try.func4
    (ChangeSpec.witness6 (enc := enc) (C := Try.checked) false ⟨#[], #[.slice none 0 0], []⟩ 8 (by kernel_rfl) (by kernel_rfl) (by kernel_rfl) (by kernel_rfl)) ?_
  intro W base args ds gs before hval0 hW hcnd _
  have hval : ∀ (j : Nat) t v, Try.f4.params[j]? = some t → args[j]? = some v → Value.okWide Try.prog W .any base t v := hval0
  have hW' := hW
  obtain ⟨p, q, hA0, hV, rfl, hfz, hnd⟩ := hW
  have hA : DataW.TrodAll enc Try.prog W 0 (fun _ => true) true Try.f4.params.toList args.toList ds p := hA0
  rw [Try.params4] at hA hval
  obtain ⟨v0, vs0, d0, ds0, p0, q0, hargs, rfl, rfl, h0, r0⟩ := trodAll_cons hA
  obtain ⟨rfl, rfl, rfl⟩ := trodAll_nil r0
  obtain rfl : args = #[v0] := by cases args; simp_all
  obtain ⟨rfl, rfl⟩ := trodVars_none hV
  obtain ⟨a0, len0, cap0, rfl⟩ := okWide_slice Try.underlying22 (hval 0 22 v0 rfl rfl)
  have k0 := h0
  have lt0 : ∀ x ∈ p0, x.block < W.heap.size := by obtain ⟨m, hm⟩ := k0; exact DataW.trod_lt m _ _ _ hm
  obtain ⟨z0, w0⟩ : ∃ zs, IsRow .u8 W a0 len0 cap0 zs := by
    obtain ⟨fuel, hf⟩ := h0
    rcases open_ints Try.underlying22 Try.underlying5 (by kernel_rfl) hf with ⟨hcs, _⟩ | ⟨x, l, c, zs, hcs, _, hl, hm, hz, _, hcell, hwz⟩
    · simp [Value.cells] at hcs
      obtain ⟨rfl, rfl, rfl⟩ := hcs
      exact ⟨[], .inl ⟨rfl, rfl, rfl, rfl⟩⟩
    · simp [Value.cells] at hcs
      obtain ⟨rfl, rfl, rfl⟩ := hcs
      exact ⟨zs, .inr ⟨_, rfl, hl, hm, by simpa using hz, hcell, hwz⟩⟩
  clear hA0 hval0
  refine (walk a0 len0 cap0 z0 W w0).mono fun e W' ⟨he, bel⟩ => ?_
  subst he
  exact ⟨_, rfl, _, _, _, [], _, [], hW', trodAll_mk1 (shut_bool Try.underlying4 _), (trodAll_cons_mk (Below.trod laidOut (by kernel_rfl) (of_decide_eq_true (by kernel_rfl)) k0 bel lt0) trodAll_mk0), rfl, bel.frame _, fun h => by cases h⟩

theorem over : Rows.fnTwiceTraceRow.holds Try.pinned (OpenSpec.ofChange Rows.fnTwiceTraceSpec) :=
  OpenClaim.holds_of_wide 4 Try.f4 rfl rfl rfl rfl rfl rfl rfl ⟨rfl, rfl, rfl, rfl, rfl⟩ rfl rfl rfl rfl rfl (by kernel_rfl) Try.func4 closed
    (of_decide_eq_true (by kernel_rfl)) (by unfold Func.isWrapper; rw [if_neg (of_decide_eq_false (by kernel_rfl))]; exact ⟨rfl, rfl⟩)
    (fun os started H enc _ => lifted os started H enc)

theorem proved : Rows.FnTwiceTraceSaid := over
#print axioms proved
end Go.Proofs.Ytmamjddhcbhdoaa.lTwice
