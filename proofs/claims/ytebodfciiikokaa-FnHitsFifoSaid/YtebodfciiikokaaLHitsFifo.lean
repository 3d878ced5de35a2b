/- Whatever the bytes: FnHitsFifo returns true, and changes nothing that was there. No conditions. -/
import Derived.Test.YtebodfciiikokaaLaw
import Derived.Test.YtebodfciiikokaaBest
import Derived.Test.YtebodfciiikokaaSpec2
namespace Go.Proofs.Ytebodfciiikokaa.lHitsFifo
open Go.ChangeShapes Go.WideShapes Go.ChangeAt Go.RowKit
open Go.ChangeMaps (open_string shut_string)
set_option linter.unusedVariables false

set_option maxHeartbeats 1000000 in
theorem walk (a0 : Option Addr) (len0 cap0 : Nat) (z0 : List Int) (w : World) (w0 : IsRow .u8 w a0 len0 cap0 z0) :
    Calls Try.prog 8 #[.slice a0 len0 cap0] w fun e w' => e = .returned (.bool true) ∧ Below w.heap.size w w' := by
  by_cases hbig : 1048576 < len0
  · go_enter Try.func8, Try.ntmps8
    go_wp2
    go_ret
    exact ⟨rfl, bR⟩
  have hcap := row_cap w0
  have hby := Lib.hid (row_bytes w0)
  clear w0
  go_enter Try.func8, Try.ntmps8
  go_wp2_with fail
  refine (DrawHitsFifo_any a0 len0 cap0 w hby.out hcap (by omega)).mono ?_
  rintro e w1 ⟨A, c, l, n, rfl, hks, hlc, hl, hn1, hn2, hb1⟩
  have HKS := Lib.hid hks
  have HB := Lib.hid hb1
  clear hks hb1
  have K1 := fun W (hw : Below w1.heap.size w1 W) => HitsFifo_any A c l n W (HKS.out.now (Nat.le_refl _) hw) hlc (by omega)
  have K2 := fun W (hw : Below w1.heap.size w1 W) => sHitsFifo_any A c l n W (HKS.out.now (Nat.le_refl _) hw) (by omega)
  have K3 := fun W (hw : Below w1.heap.size w1 W) => HitsFifo_any A c l 1 W (HKS.out.now (Nat.le_refl _) hw) hlc (by omega)
  have K4 := fun W (hw : Below w1.heap.size w1 W) => HitsLru_any A c l 1 W (HKS.out.now (Nat.le_refl _) hw) hlc (by omega)
  have K5 := fun W (hw : Below w1.heap.size w1 W) => HitsBest_any A c l 1 W (HKS.out.now (Nat.le_refl _) hw) hlc (by omega)
  by_cases hr : rval l n = true
  · obtain ⟨h1, h2, h40, hn1', hn8⟩ := rval_parts hr
    have hC : cval Tr.fifo l n = (Tr.fifo l n.toNat : Int) := by unfold cval; rw [if_pos hr]
    have hr1 : rval l 1 = true := by unfold rval; rw [h1]; rfl
    have hC3 : cval Tr.fifo l 1 = (Tr.best l 1 : Int) := by unfold cval; rw [if_pos hr1, ← Tr.lru_one, ← Tr.fifo_one]; rfl
    have hC4 : cval Tr.lru l 1 = (Tr.best l 1 : Int) := by unfold cval; rw [if_pos hr1, ← Tr.lru_one]; rfl
    have hC5 : cval Tr.best l 1 = (Tr.best l 1 : Int) := by unfold cval; rw [if_pos hr1]; rfl
    simp only [hr, hC] at K1 K2
    simp only [hr1, hC3, hC4, hC5] at K3 K4 K5
    have hlt : (l.take (l.length / 2)).length = l.length / 2 := by rw [List.length_take]; omega
    have hr6 : rval (l.take (l.length / 2)) n = true := by
      unfold tval at h1
      unfold rval tval
      simp only [Bool.and_eq_true, decide_eq_true_eq] at h1 ⊢
      refine ⟨⟨by rw [hlt]; omega, ?_⟩, h2⟩
      rw [List.all_eq_true] at *
      exact fun x hx => h1.2 x (List.mem_of_mem_take hx)
    have hC6 : cval Tr.fifo (l.take (l.length / 2)) n = (Tr.fifo (l.take (l.length / 2)) n.toNat : Int) := by unfold cval; rw [if_pos hr6]
    have hmo : Tr.fifo (l.take (l.length / 2)) n.toNat ≤ Tr.fifo l n.toNat := Tr.fifo_half _ _
    have hks6 : Ks w1.heap.size w1 (cutA A c 0 2) (l.take (l.length / 2)) := by
      have := HKS.out.kcut (c := c) (lo := 0) (hi := l.length / 2) (by omega) (by omega) hlc
      rwa [List.drop_zero] at this
    have K6 := fun W (hw : Below w1.heap.size w1 W) => HitsFifo_any (cutA A c 0 2) c (l.take (l.length / 2)) n W (hks6.now (Nat.le_refl _) hw) (by omega) (by omega)
    simp only [hr6, hC6, hlt] at K6
    have hs : ∀ W, (Instr.slice 23 (.slice A l.length c) none (some (.int .i64 ((l.length : Int) / 2))) none).run Try.prog W = .ok (.slice (cutA A c 0 2) (l.length / 2) c) W := fun W => by
      have h := ks_hi W A l.length c ((l.length : Int) / 2) (by omega) (by omega)
      rwa [show ((l.length : Int) / 2).toNat = l.length / 2 by omega, Nat.sub_zero, Nat.sub_zero] at h
    generalize Tr.fifo (l.take (l.length / 2)) n.toNat = C6 at *
    generalize Tr.fifo l n.toNat = C1 at *
    generalize Tr.best l 1 = C3 at *
    have H1 := Lib.hid K1
    have H2 := Lib.hid K2
    have H3 := Lib.hid K3
    have H4 := Lib.hid K4
    have H5 := Lib.hid K5
    have H6 := Lib.hid K6
    clear K1 K2 K3 K4 K5 K6 hr hr1 hr6 hC hC3 hC4 hC5 hC6 h1 h2 hlt hks6
    go_wp2_with fail
    refine (H1.out _ bR).mono ?_
    rintro e w2 ⟨rfl, hb2'⟩
    have hb2 := bT bR hb2'
    go_wp2_with fail
    refine (H2.out _ hb2).mono ?_
    rintro e w3 ⟨rfl, hb3'⟩
    have hb3 := bT hb2 hb3'
    go_wp2_with fail
    refine (H3.out _ hb3).mono ?_
    rintro e w4 ⟨rfl, hb4'⟩
    have hb4 := bT hb3 hb4'
    go_wp2_with fail
    refine (H4.out _ hb4).mono ?_
    rintro e w5 ⟨rfl, hb5'⟩
    have hb5 := bT hb4 hb5'
    go_wp2_with fail
    refine (H5.out _ hb5).mono ?_
    rintro e w6 ⟨rfl, hb6'⟩
    have hb6 := bT hb5 hb6'
    go_wp2_with fail
    refine (H6.out _ hb6).mono ?_
    rintro e w7 ⟨rfl, hb7'⟩
    have hb7 := bT hb6 hb7'
    go_wp2
    go_ret
    exact ⟨rfl, bT HB.out hb7⟩
  · have hr' : rval l n = false := by simpa using hr
    have hC : cval Tr.fifo l n = 0 := by unfold cval; rw [if_neg hr]
    simp only [hr', hC] at K1 K2
    have H1 := Lib.hid K1
    have H2 := Lib.hid K2
    clear K1 K2 K3 K4 K5 hr hr' hC
    go_wp2_with fail
    refine (H1.out _ bR).mono ?_
    rintro e w2 ⟨rfl, hb2'⟩
    have hb2 := bT bR hb2'
    go_wp2_with fail
    refine (H2.out _ hb2).mono ?_
    rintro e w3 ⟨rfl, hb3'⟩
    have hb3 := bT hb2 hb3'
    go_wp2
    go_ret
    exact ⟨rfl, bT HB.out hb3⟩

set_option maxRecDepth 100000 in
theorem closed : joinedFacts Try.prog 8 Try.f8 Rows.fnHitsFifoSpec Rows.fnHitsFifoRow = true := by
  unfold joinedFacts
  rw [may_enter, lifts_final, make_cut]
  refine Eq.trans ?_ (Eq.refl _)
  kernel_rfl
set_option maxRecDepth 100000 in
theorem lifted (os : Os) (started : os.Started) (H : Type) (enc : TypeId × Value → H) :
    ReturnsInHanded {} Try.checked os 8 .any (Rows.fnHitsFifoSpec.pre6 enc Try.prog Try.f8 Rows.fnHitsFifoRow.domain false) (Rows.fnHitsFifoSpec.post enc Try.prog Try.f8 false true false false) := by
  refine returnsInHanded_of_change (C := Try.checked) own started (by kernel_rfl) Try.func8
    (ChangeSpec.witness6 (enc := enc) (C := Try.checked) false ⟨#[], #[.slice none 0 0], []⟩ 8 (by kernel_rfl) (by kernel_rfl) (by kernel_rfl) (by kernel_rfl)) ?_
  intro W base args ds gs before hval0 hW hcnd _
  have hval : ∀ (j : Nat) t v, Try.f8.params[j]? = some t → args[j]? = some v → Value.okWide Try.prog W .any base t v := hval0
  have hW' := hW
  obtain ⟨p, q, hA0, hV, rfl, hfz, hnd⟩ := hW
  have hA : DataW.TrodAll enc Try.prog W 0 (fun _ => true) true Try.f8.params.toList args.toList ds p := hA0
  rw [Try.params8] at hA hval
  obtain ⟨v0, vs0, d0, ds0, p0, q0, hargs, rfl, rfl, h0, r0⟩ := trodAll_cons hA
  obtain ⟨rfl, rfl, rfl⟩ := trodAll_nil r0
  obtain rfl : args = #[v0] := by cases args; simp_all
  obtain ⟨rfl, rfl⟩ := trodVars_none hV
  obtain ⟨a0, len0, cap0, rfl⟩ := okWide_slice Try.underlying22 (hval 0 22 v0 rfl rfl)
  have k0 := h0
  have lt0 : ∀ x ∈ p0, x.block < W.heap.size := by obtain ⟨m, hm⟩ := k0; exact DataW.trod_lt m _ _ _ hm
  obtain ⟨z0, w0⟩ : ∃ zs, IsRow .u8 W a0 len0 cap0 zs := by
    obtain ⟨fuel, hf⟩ := h0
    rcases open_ints Try.underlying22 Try.underlying5 (by kernel_rfl) hf with ⟨hcs, _⟩ | ⟨x, l, c, zs, hcs, _, hl, hm, hz, _, hcell, hwz⟩
    · simp [Value.cells] at hcs
      obtain ⟨rfl, rfl, rfl⟩ := hcs
      exact ⟨[], .inl ⟨rfl, rfl, rfl, rfl⟩⟩
    · simp [Value.cells] at hcs
      obtain ⟨rfl, rfl, rfl⟩ := hcs
      exact ⟨zs, .inr ⟨_, rfl, hl, hm, by simpa using hz, hcell, hwz⟩⟩
  clear hA0 hval0
  refine (walk a0 len0 cap0 z0 W w0).mono fun e W' ⟨he, bel⟩ => ?_
  subst he
  exact ⟨_, rfl, _, _, _, [], _, [], hW', trodAll_mk1 (shut_bool Try.underlying4 _), (trodAll_cons_mk (Below.trod laidOut (by kernel_rfl) (of_decide_eq_true (by kernel_rfl)) k0 bel lt0) trodAll_mk0), rfl, bel.frame _, fun h => by cases h⟩

theorem over : Rows.fnHitsFifoRow.holds Try.pinned (OpenSpec.ofChange Rows.fnHitsFifoSpec) :=
  OpenClaim.holds_of_wide 8 Try.f8 rfl rfl rfl rfl rfl rfl rfl ⟨rfl, rfl, rfl, rfl, rfl⟩ rfl rfl rfl rfl rfl (by kernel_rfl) Try.func8 closed
    (of_decide_eq_true (by kernel_rfl)) (by unfold Func.isWrapper; rw [if_neg (of_decide_eq_false (by kernel_rfl))]; exact ⟨rfl, rfl⟩)
    (fun os started H enc _ => lifted os started H enc)

theorem proved : Rows.FnHitsFifoSaid := over
#print axioms proved
end Go.Proofs.Ytebodfciiikokaa.lHitsFifo
