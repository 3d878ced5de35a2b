/- Whatever the bytes: FnLruDistance returns true, and changes nothing that was there. No conditions. -/
import Derived.Test.YtebodfciiikokaaLaw
import Derived.Test.YtebodfciiikokaaSpec2
import Derived.Test.YtebodfciiikokaaDist
namespace Go.Proofs.Ytebodfciiikokaa.lLruDistance
open Go.ChangeShapes Go.WideShapes Go.ChangeAt Go.RowKit
open Go.ChangeMaps (open_string shut_string)
set_option linter.unusedVariables false

set_option maxRecDepth 100000 in
set_option maxHeartbeats 2000000 in
theorem walk (a0 : Option Addr) (len0 cap0 : Nat) (z0 : List Int) (w : World) (w0 : IsRow .u8 w a0 len0 cap0 z0) :
    Calls Try.prog 7 #[.slice a0 len0 cap0] w fun e w' => e = .returned (.bool true) ∧ Below w.heap.size w w' := by
  by_cases hbig : 1048576 < len0
  · go_enter Try.func7, Try.ntmps7
    go_wp2
    go_ret
    exact ⟨rfl, bR⟩
  have hcap := row_cap w0
  have hby := Lib.hid (row_bytes w0)
  clear w0
  go_enter Try.func7, Try.ntmps7
  go_wp2_with fail
  refine (DrawHitsLru_any a0 len0 cap0 w hby.out hcap (by omega)).mono ?_
  rintro e w1 ⟨A, c, l, n, rfl, hks, hlc, hl, hn1, hn2, hb1⟩
  have HKS := Lib.hid hks
  have HB := Lib.hid hb1
  clear hks hb1
  have K1 := fun W (hw : Below w1.heap.size w1 W) => HitsLru_any A c l n W (HKS.out.now (Nat.le_refl _) hw) hlc (by omega)
  have K2 := fun W (hw : Below w1.heap.size w1 W) => sHitsLru_any A c l n W (HKS.out.now (Nat.le_refl _) hw) (by omega)
  have K3 := fun W (hw : Below w1.heap.size w1 W) => DistancesOf_is A c l W (HKS.out.now (Nat.le_refl _) hw) hlc (by omega)
  by_cases hr : rval l n = true
  · have hC : cval Tr.lru l n = (Tr.lru l n.toNat : Int) := by unfold cval; rw [if_pos hr]
    obtain ⟨h1, h2, h40, hn1', hn8⟩ := rval_parts hr
    have e0 : dsv l = dsl l := by unfold dsv; rw [if_pos h1]
    have HN : Hid (Tr.lru l n.toNat = Tr.near l n.toNat l.length) := Tr.lru_eq_near _ (by omega)
    have HS : Hid (∀ k, Tr.near l n.toNat (k + 1) = Tr.near l n.toNat k + if 0 ≤ Tr.dist l k ∧ Tr.dist l k < (n.toNat : Int) then 1 else 0) := fun k => rfl
    have HL : Hid (∀ k, Tr.near l n.toNat k ≤ k) := by
      intro k
      induction k with
      | zero => exact Nat.le_refl _
      | succ k ih => rw [HS.out]; split <;> omega
    have HNN : Hid ((n.toNat : Int) = n) := by show _ = _; omega
    simp only [hr, hC] at K1 K2
    simp only [e0, h1, dsl_length] at K3
    generalize Tr.lru l n.toNat = C1 at *
    have H1 := Lib.hid K1
    have H2 := Lib.hid K2
    have H3 := Lib.hid K3
    clear K1 K2 K3 hr hC h1 h2 e0
    go_wp2_with fail
    refine (H1.out _ bR).mono ?_
    rintro e w2 ⟨rfl, hb2'⟩
    have hb2 := bT bR hb2'
    go_wp2_with fail
    refine (H2.out _ hb2).mono ?_
    rintro e w3 ⟨rfl, hb3'⟩
    have hb3 := bT hb2 hb3'
    go_wp2_with fail
    refine (H3.out _ hb3).mono ?_
    rintro e w4 ⟨A4, c4, rfl, _, his4, hb4'⟩
    have hb4 := bT hb3 hb4'
    have HIS := Lib.hid his4
    clear his4
    go_wp2
    go_loopw [11, 12] (fun fu u wr => ∃ k : Nat, k ≤ l.length ∧ u = .int .i64 k ∧ fu = .int .i64 ((Tr.near l n.toNat k : Nat) : Int) ∧ Below w4.heap.size w4 wr) (fun _ u _ => l.length - (intOf u).toNat)
    case atStart => exact ⟨0, by omega, rfl, rfl, bR⟩
    case round =>
      obtain ⟨k, hk, rfl, rfl, hb⟩ := hrel
      by_cases hlt : k < l.length
      · obtain ⟨b2, o2, v2, rfl, hbb2, d2, g2⟩ := (HIS.out.now (Nat.le_refl _) hb).int (k := k) (by rw [dsl_length]; exact hlt)
        rw [dsl_get l k hlt] at g2
        injection g2 with g2
        subst g2
        have hF := HL.out k
        have hs := HS.out k
        rw [HNN.out] at hs
        generalize Tr.dist l k = D at *
        by_cases h0 : 0 ≤ D
        · by_cases h1 : D < n
          · rw [if_pos ⟨h0, h1⟩] at hs
            have HE := Lib.hid hs
            clear hs
            generalize Tr.near l n.toNat k = F at *
            go_wp2
            go_roundw
            case rel => exact ⟨k + 1, by omega, by go_num, by rw [HE.out]; rfl, hb⟩
            case measure => simp [intOf]; omega
          · rw [if_neg (fun h => h1 h.2)] at hs
            have hq : decide (D < n) = false := by simpa using h1
            have HE := Lib.hid hs
            clear hs
            generalize Tr.near l n.toNat k = F at *
            go_wp2
            go_roundw
            case rel => exact ⟨k + 1, by omega, by go_num, by rw [HE.out]; rfl, hb⟩
            case measure => simp [intOf]; omega
        · rw [if_neg (fun h => h0 h.1)] at hs
          have hq : decide (0 ≤ D) = false := by simpa using h0
          have HE := Lib.hid hs
          clear hs
          generalize Tr.near l n.toNat k = F at *
          go_wp2
          go_roundw
          case rel => exact ⟨k + 1, by omega, by go_num, by rw [HE.out]; rfl, hb⟩
          case measure => simp [intOf]; omega
      · obtain rfl : k = l.length := by omega
        rw [← HN.out]
        have hq : ((C1 : Int) == (C1 : Int)) = true := by rw [beq_iff_eq]
        go_wp2
        go_ret
        exact ⟨rfl, bT HB.out (bT hb4 hb)⟩
  · have hr' : rval l n = false := by simpa using hr
    have hC : cval Tr.lru l n = 0 := by unfold cval; rw [if_neg hr]
    simp only [hr', hC] at K1 K2
    have H1 := Lib.hid K1
    have H2 := Lib.hid K2
    clear K1 K2 K3 hr hr' hC
    go_wp2_with fail
    refine (H1.out _ bR).mono ?_
    rintro e w2 ⟨rfl, hb2'⟩
    have hb2 := bT bR hb2'
    go_wp2_with fail
    refine (H2.out _ hb2).mono ?_
    rintro e w3 ⟨rfl, hb3'⟩
    have hb3 := bT hb2 hb3'
    go_wp2
    go_ret
    exact ⟨rfl, bT HB.out hb3⟩

set_option maxRecDepth 100000 in
theorem closed : joinedFacts Try.prog 7 Try.f7 Rows.fnLruDistanceSpec Rows.fnLruDistanceRow = true := by
  unfold joinedFacts
  rw [may_enter, lifts_final, make_cut]
  refine Eq.trans ?_ (Eq.refl _)
  kernel_rfl
set_option maxRecDepth 100000 in
theorem lifted (os : Os) (started : os.Started) (H : Type) (enc : TypeId × Value → H) :
    ReturnsInHanded {} Try.checked os 7 .any (Rows.fnLruDistanceSpec.pre6 enc Try.prog Try.f7 Rows.fnLruDistanceRow.domain false) (Rows.fnLruDistanceSpec.post enc Try.prog Try.f7 false true false false) := by
  refine returnsInHanded_of_change (C := Try.checked) own started (by kernel_rfl) Try.func7
    (ChangeSpec.witness6 (enc := enc) (C := Try.checked) false ⟨#[], #[.slice none 0 0], []⟩ 8 (by kernel_rfl) (by kernel_rfl) (by kernel_rfl) (by kernel_rfl)) ?_
  intro W base args ds gs before hval0 hW hcnd _
  have hval : ∀ (j : Nat) t v, Try.f7.params[j]? = some t → args[j]? = some v → Value.okWide Try.prog W .any base t v := hval0
  have hW' := hW
  obtain ⟨p, q, hA0, hV, rfl, hfz, hnd⟩ := hW
  have hA : DataW.TrodAll enc Try.prog W 0 (fun _ => true) true Try.f7.params.toList args.toList ds p := hA0
  rw [Try.params7] at hA hval
  obtain ⟨v0, vs0, d0, ds0, p0, q0, hargs, rfl, rfl, h0, r0⟩ := trodAll_cons hA
  obtain ⟨rfl, rfl, rfl⟩ := trodAll_nil r0
  obtain rfl : args = #[v0] := by cases args; simp_all
  obtain ⟨rfl, rfl⟩ := trodVars_none hV
  obtain ⟨a0, len0, cap0, rfl⟩ := okWide_slice Try.underlying22 (hval 0 22 v0 rfl rfl)
  have k0 := h0
  have lt0 : ∀ x ∈ p0, x.block < W.heap.size := by obtain ⟨m, hm⟩ := k0; exact DataW.trod_lt m _ _ _ hm
  obtain ⟨z0, w0⟩ : ∃ zs, IsRow .u8 W a0 len0 cap0 zs := by
    obtain ⟨fuel, hf⟩ := h0
    rcases open_ints Try.underlying22 Try.underlying5 (by kernel_rfl) hf with ⟨hcs, _⟩ | ⟨x, l, c, zs, hcs, _, hl, hm, hz, _, hcell, hwz⟩
    · simp [Value.cells] at hcs
      obtain ⟨rfl, rfl, rfl⟩ := hcs
      exact ⟨[], .inl ⟨rfl, rfl, rfl, rfl⟩⟩
    · simp [Value.cells] at hcs
      obtain ⟨rfl, rfl, rfl⟩ := hcs
      exact ⟨zs, .inr ⟨_, rfl, hl, hm, by simpa using hz, hcell, hwz⟩⟩
  clear hA0 hval0
  refine (walk a0 len0 cap0 z0 W w0).mono fun e W' ⟨he, bel⟩ => ?_
  subst he
  exact ⟨_, rfl, _, _, _, [], _, [], hW', trodAll_mk1 (shut_bool Try.underlying4 _), (trodAll_cons_mk (Below.trod laidOut (by kernel_rfl) (of_decide_eq_true (by kernel_rfl)) k0 bel lt0) trodAll_mk0), rfl, bel.frame _, fun h => by cases h⟩

theorem over : Rows.fnLruDistanceRow.holds Try.pinned (OpenSpec.ofChange Rows.fnLruDistanceSpec) :=
  OpenClaim.holds_of_wide 7 Try.f7 rfl rfl rfl rfl rfl rfl rfl ⟨rfl, rfl, rfl, rfl, rfl⟩ rfl rfl rfl rfl rfl (by kernel_rfl) Try.func7 closed
    (of_decide_eq_true (by kernel_rfl)) (by unfold Func.isWrapper; rw [if_neg (of_decide_eq_false (by kernel_rfl))]; exact ⟨rfl, rfl⟩)
    (fun os started H enc _ => lifted os started H enc)

theorem proved : Rows.FnLruDistanceSaid := over
#print axioms proved
end Go.Proofs.Ytebodfciiikokaa.lLruDistance
