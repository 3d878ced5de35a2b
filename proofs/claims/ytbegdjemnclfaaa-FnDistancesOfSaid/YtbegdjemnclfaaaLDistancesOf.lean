/- Whatever the bytes: FnDistancesOf returns true, and changes nothing that was there. No conditions. -/
import Derived.Test.YtbegdjemnclfaaaLaw
import Derived.Test.YtbegdjemnclfaaaDist
namespace Go.Proofs.Ytbegdjemnclfaaa.lDistancesOf
open Go.ChangeShapes Go.WideShapes Go.ChangeAt Go.RowKit
open Go.ChangeMaps (open_string shut_string)
set_option linter.unusedVariables false

set_option maxRecDepth 100000 in
set_option maxHeartbeats 2000000 in
theorem walk (a0 : Option Addr) (len0 cap0 : Nat) (z0 : List Int) (w : World) (w0 : IsRow .u8 w a0 len0 cap0 z0) :
    Calls Try.prog 6 #[.slice a0 len0 cap0] w fun e w' => e = .returned (.bool true) ∧ Below w.heap.size w w' := by
  by_cases hbig : 1048576 < len0
  · go_enter Try.func6, Try.ntmps6
    go_wp2
    go_ret
    exact ⟨rfl, bR⟩
  have hcap := row_cap w0
  have hby := Lib.hid (row_bytes w0)
  clear w0
  go_enter Try.func6, Try.ntmps6
  go_wp2_with fail
  refine (DrawDistancesOf_any a0 len0 cap0 w hby.out hcap (by omega)).mono ?_
  rintro e w1 ⟨A, c, l, rfl, hks, hlc, hl, hb1⟩
  have HKS := Lib.hid hks
  have HB := Lib.hid hb1
  clear hks hb1
  have K1 := fun W (hw : Below w1.heap.size w1 W) => DistancesOf_is A c l W (HKS.out.now (Nat.le_refl _) hw) hlc (by omega)
  have K2 := fun W (hw : Below w1.heap.size w1 W) => sDistancesOf_any A c l W (HKS.out.now (Nat.le_refl _) hw) (by omega)
  by_cases hv : tval l = true
  · have e0 : dsv l = dsl l := by unfold dsv; rw [if_pos hv]
    simp only [e0, hv, dsl_length] at K1 K2
    have H1 := Lib.hid K1
    have H2 := Lib.hid K2
    clear K1 K2 e0 hv
    go_wp2_with fail
    refine (H1.out _ bR).mono ?_
    rintro e w2 ⟨A2, c2, rfl, hlc2, his2, hb2'⟩
    have hb2 := bT bR hb2'
    go_wp2_with fail
    refine (H2.out _ hb2).mono ?_
    rintro e w3 ⟨A3, c3, rfl, _, his3, hb3'⟩
    have hb3 := bT hb2 hb3'
    have K3 := fun W (hw : Below w3.heap.size w3 W) => ipInts_same A2 A3 c2 c3 (dsl l) W ((his2.now (Nat.le_refl _) hb3').now (Nat.le_refl _) hw) (his3.now (Nat.le_refl _) hw) (by rw [dsl_length]; omega)
    rw [dsl_length] at K3
    have HIS := Lib.hid (his2.now (Nat.le_refl _) hb3')
    have H3 := Lib.hid K3
    clear K3 his2 his3
    go_wp2_with fail
    refine (H3.out _ bR).mono ?_
    rintro e w4 ⟨rfl, hb4⟩
    have hbw4 := bT hb3 hb4
    go_wp2
    go_loopw [8, 9] (fun fu u wr => ∃ k : Nat, k ≤ l.length ∧ u = .int .i64 k ∧ fu = .int .i64 ((Tr.nd (l.take k) : Nat) : Int) ∧ Below w4.heap.size w4 wr) (fun _ u _ => l.length - (intOf u).toNat)
    case atStart => exact ⟨0, by omega, rfl, rfl, bR⟩
    case round =>
      obtain ⟨k, hk, rfl, rfl, hb⟩ := hrel
      by_cases hlt : k < l.length
      · obtain ⟨w5, rfl⟩ : ∃ w5, w5 = wr := ⟨_, rfl⟩
        have hbl := bT hbw4 hb
        obtain ⟨b, o, x, y, hTe, hbb, c1', c2', e1⟩ := (HKS.out.now (Nat.le_refl _) hbl).key2 hlt
        subst hTe
        have hF : Tr.nd (l.take k) ≤ k := by have := Tr.nd_le (l.take k); rw [List.length_take] at this; omega
        have HFS : Hid (Tr.nd (l.take (k + 1)) = Tr.nd (l.take k) + if (x, y) ∈ l.take k then 0 else 1) := by
          show _ = _
          rw [Tr.nd_take_succ k hlt]
          rw [List.getElem?_eq_getElem hlt] at e1
          injection e1 with e1
          rw [e1]
        have HNG : Hid (Tr.dist l k = -1 ↔ (x, y) ∉ l.take k) := by
          rw [List.getElem?_eq_getElem hlt] at e1
          injection e1 with e1
          rw [← e1]
          exact Tr.dist_neg k hlt
        have HLT := Lib.hid (Tr.dist_lt_firsts (tr := l) k hlt)
        have HD5 := Lib.hid ((HIS.out.now (Nat.le_refl _) hb4).now (Nat.le_refl _) hb)
        have HK5 := Lib.hid (HKS.out.now (Nat.le_refl _) hbl)
        have C1 := Lib.hid c1'
        have C2 := Lib.hid c2'
        clear e1 c1' c2'
        go_wp2
        go_loopw [10, 11] (fun fu u wr => ∃ (r : Nat) (B : Bool), r ≤ k ∧ u = .int .i64 r ∧ fu = .bool B ∧ Hid (B = decide ((x, y) ∉ l.take r)) ∧ Below w5.heap.size w5 wr) (fun _ u _ => k - (intOf u).toNat)
        case atStart => exact ⟨0, true, by omega, rfl, rfl, by simp [Hid], bR⟩
        case round =>
          obtain ⟨r, B, hr, rfl, rfl, hf, hb'⟩ := hrel
          by_cases hlr : r < k
          · obtain ⟨b', o', x', y', hTe', hbb', d1, d2, e2⟩ := (HK5.out.now (Nat.le_refl _) hb').key2 (k := r) (by omega)
            injection hTe' with hTe'
            injection hTe' with h1 h2
            subst h1 h2
            have c1 := (hb'.cell (p := ⟨b, o + k * 2, none⟩) hbb).trans C1.out
            have c2 := (hb'.cell (p := ⟨b, o + k * 2 + 1, none⟩) hbb).trans C2.out
            have he := fun W => neq_key x' y' x y W
            have HTS : Hid (l.take (r + 1) = l.take r ++ [(x', y')]) := by show _ = _; rw [List.take_add_one, e2]; rfl
            clear e2
            cases B with
            | false =>
              have HB' : Hid (false = decide ((x, y) ∉ l.take (r + 1))) := by
                have h := hf.out
                show _ = _
                rw [HTS.out]
                simp at h ⊢
                exact fun h' => absurd h h'
              go_wp2
              go_quiet (fail)
              go_wp2
              go_roundw
              case rel => exact ⟨r + 1, false, by omega, by go_num, rfl, HB', bDN hb'⟩
              case measure => simp [intOf]; omega
            | true =>
              by_cases hxy : (x', y') = (x, y)
              · have hq : keq x' y' x y = true := keq_true hxy
                have HB' : Hid (false = decide ((x, y) ∉ l.take (r + 1))) := by
                  show _ = _
                  rw [HTS.out, hxy]
                  simp
                clear hxy
                go_wp2
                go_quiet (fail)
                go_wp2
                go_roundw
                case rel => exact ⟨r + 1, false, by omega, by go_num, rfl, HB', bDN hb'⟩
                case measure => simp [intOf]; omega
              · have hq : keq x' y' x y = false := keq_false hxy
                have HB' : Hid (true = decide ((x, y) ∉ l.take (r + 1))) := by
                  have h := hf.out
                  show _ = _
                  rw [HTS.out]
                  simp only [Eq.comm (a := true), decide_eq_true_eq, List.mem_append, List.mem_singleton] at h ⊢
                  exact fun h' => h'.elim h fun e => hxy e.symm
                clear hxy
                go_wp2
                go_quiet (fail)
                go_wp2
                go_roundw
                case rel => exact ⟨r + 1, true, by omega, by go_num, rfl, HB', bDN hb'⟩
                case measure => simp [intOf]; omega
          · obtain rfl : r = k := by omega
            obtain ⟨b2, o2, v2, rfl, hbb2, d2, g2⟩ := (HD5.out.now (Nat.le_refl _) hb').int (k := r) (by rw [dsl_length]; exact hlt)
            rw [dsl_get l r hlt] at g2
            injection g2 with g2
            subst g2
            cases B with
            | false =>
              have hin : (x, y) ∈ l.take r := by simpa using hf.out
              have hz : (Tr.dist l r == -1) = false := by rw [beq_eq_false_iff_ne]; exact fun h => HNG.out.1 h hin
              have HN : Hid (Tr.nd (l.take (r + 1)) = Tr.nd (l.take r)) := by show _ = _; rw [HFS.out, if_pos hin]; rfl
              have hge : decide ((Tr.nd (l.take r) : Int) ≤ Tr.dist l r) = false := by rw [decide_eq_false_iff_not]; have := HLT.out; rw [HN.out] at this; omega
              clear hin
              generalize Tr.nd (l.take r) = F at *
              generalize Tr.dist l r = D at *
              go_wp2
              go_roundw
              case rel => exact ⟨r + 1, by omega, by go_num, by rw [HN.out], bT hb hb'⟩
              case measure => simp [intOf]; omega
            | true =>
              have hin : (x, y) ∉ l.take r := by have h := hf.out; rw [eq_comm, decide_eq_true_eq] at h; exact h
              have hz : (Tr.dist l r == -1) = true := by rw [beq_iff_eq]; exact HNG.out.2 hin
              have HN : Hid (Tr.nd (l.take (r + 1)) = Tr.nd (l.take r) + 1) := by show _ = _; rw [HFS.out, if_neg hin]
              have hge : decide ((Tr.nd (l.take r) : Int) + 1 ≤ Tr.dist l r) = false := by rw [decide_eq_false_iff_not]; have := HLT.out; rw [HN.out] at this; omega
              clear hin
              generalize Tr.nd (l.take r) = F at *
              generalize Tr.dist l r = D at *
              go_wp2
              go_roundw
              case rel => exact ⟨r + 1, by omega, by go_num, by rw [HN.out]; rfl, bT hb hb'⟩
              case measure => simp [intOf]; omega
      · go_wp2
        go_ret
        exact ⟨rfl, bT HB.out (bT hbw4 hb)⟩
  · have hv : tval l = false := by simpa using hv
    have hcv : dsv l = [] := by unfold dsv; rw [hv]; rfl
    simp only [hcv, hv, List.length_nil] at K1 K2
    have H1 := Lib.hid K1
    have H2 := Lib.hid K2
    clear K1 K2 hcv
    go_wp2_with fail
    refine (H1.out _ bR).mono ?_
    rintro e w2 ⟨A2, c2, rfl, _, his2, hb2'⟩
    have hb2 := bT bR hb2'
    go_wp2_with fail
    refine (H2.out _ hb2).mono ?_
    rintro e w3 ⟨A3, c3, rfl, _, his3, hb3'⟩
    have hb3 := bT hb2 hb3'
    have K3 := fun W (hw : Below w3.heap.size w3 W) => ipInts_same A2 A3 c2 c3 [] W ((his2.now (Nat.le_refl _) hb3').now (Nat.le_refl _) hw) (his3.now (Nat.le_refl _) hw) (by simp)
    simp only [List.length_nil] at K3
    have H3 := Lib.hid K3
    clear K3 his2 his3
    go_wp2_with fail
    refine (H3.out _ bR).mono ?_
    rintro e w4 ⟨rfl, hb4⟩
    go_wp2_with fail
    refine (H3.out _ hb4).mono ?_
    rintro e w5 ⟨rfl, hb5⟩
    go_wp2
    go_ret
    exact ⟨rfl, bT HB.out (bT hb3 (bT hb4 hb5))⟩

set_option maxRecDepth 100000 in
theorem closed : joinedFacts Try.prog 6 Try.f6 Rows.fnDistancesOfSpec Rows.fnDistancesOfRow = true := by
  unfold joinedFacts
  rw [may_enter, lifts_final, make_cut]
  refine Eq.trans ?_ (Eq.refl _)
  kernel_rfl
set_option maxRecDepth 100000 in
theorem lifted (os : Os) (started : os.Started) (H : Type) (enc : TypeId × Value → H) :
    ReturnsInHanded {} Try.checked os 6 .any (Rows.fnDistancesOfSpec.pre6 enc Try.prog Try.f6 Rows.fnDistancesOfRow.domain false) (Rows.fnDistancesOfSpec.post enc Try.prog Try.f6 false true false false) := by
  refine returnsInHanded_of_change (C := Try.checked) own started (by kernel_rfl) Try.func6
    (ChangeSpec.witness6 (enc := enc) (C := Try.checked) false ⟨#[], #[.slice none 0 0], []⟩ 8 (by kernel_rfl) (by kernel_rfl) (by kernel_rfl) (by kernel_rfl)) ?_
  intro W base args ds gs before hval0 hW hcnd _
  have hval : ∀ (j : Nat) t v, Try.f6.params[j]? = some t → args[j]? = some v → Value.okWide Try.prog W .any base t v := hval0
  have hW' := hW
  obtain ⟨p, q, hA0, hV, rfl, hfz, hnd⟩ := hW
  have hA : DataW.TrodAll enc Try.prog W 0 (fun _ => true) true Try.f6.params.toList args.toList ds p := hA0
  rw [Try.params6] at hA hval
  obtain ⟨v0, vs0, d0, ds0, p0, q0, hargs, rfl, rfl, h0, r0⟩ := trodAll_cons hA
  obtain ⟨rfl, rfl, rfl⟩ := trodAll_nil r0
  obtain rfl : args = #[v0] := by cases args; simp_all
  obtain ⟨rfl, rfl⟩ := trodVars_none hV
  obtain ⟨a0, len0, cap0, rfl⟩ := okWide_slice Try.underlying22 (hval 0 22 v0 rfl rfl)
  have k0 := h0
  have lt0 : ∀ x ∈ p0, x.block < W.heap.size := by obtain ⟨m, hm⟩ := k0; exact DataW.trod_lt m _ _ _ hm
  obtain ⟨z0, w0⟩ : ∃ zs, IsRow .u8 W a0 len0 cap0 zs := by
    obtain ⟨fuel, hf⟩ := h0
    rcases open_ints Try.underlying22 Try.underlying5 (by kernel_rfl) hf with ⟨hcs, _⟩ | ⟨x, l, c, zs, hcs, _, hl, hm, hz, _, hcell, hwz⟩
    · simp [Value.cells] at hcs
      obtain ⟨rfl, rfl, rfl⟩ := hcs
      exact ⟨[], .inl ⟨rfl, rfl, rfl, rfl⟩⟩
    · simp [Value.cells] at hcs
      obtain ⟨rfl, rfl, rfl⟩ := hcs
      exact ⟨zs, .inr ⟨_, rfl, hl, hm, by simpa using hz, hcell, hwz⟩⟩
  clear hA0 hval0
  refine (walk a0 len0 cap0 z0 W w0).mono fun e W' ⟨he, bel⟩ => ?_
  subst he
  exact ⟨_, rfl, _, _, _, [], _, [], hW', trodAll_mk1 (shut_bool Try.underlying4 _), (trodAll_cons_mk (Below.trod laidOut (by kernel_rfl) (of_decide_eq_true (by kernel_rfl)) k0 bel lt0) trodAll_mk0), rfl, bel.frame _, fun h => by cases h⟩

theorem over : Rows.fnDistancesOfRow.holds Try.pinned (OpenSpec.ofChange Rows.fnDistancesOfSpec) :=
  OpenClaim.holds_of_wide 6 Try.f6 rfl rfl rfl rfl rfl rfl rfl ⟨rfl, rfl, rfl, rfl, rfl⟩ rfl rfl rfl rfl rfl (by kernel_rfl) Try.func6 closed
    (of_decide_eq_true (by kernel_rfl)) (by unfold Func.isWrapper; rw [if_neg (of_decide_eq_false (by kernel_rfl))]; exact ⟨rfl, rfl⟩)
    (fun os started H enc _ => lifted os started H enc)

theorem proved : Rows.FnDistancesOfSaid := over
#print axioms proved
end Go.Proofs.Ytbegdjemnclfaaa.lDistancesOf
