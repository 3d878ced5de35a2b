/- Whatever the bytes: FnLruEnough returns true, and changes nothing that was there. No conditions. -/
import Derived.Test.YtmamjddhcbhdoaaLaw
import Derived.Test.YtmamjddhcbhdoaaBest
import Derived.Test.YtmamjddhcbhdoaaSpec2
namespace Go.Proofs.Ytmamjddhcbhdoaa.lLruEnough
open Go.ChangeShapes Go.WideShapes Go.ChangeAt Go.RowKit
open Go.ChangeMaps (open_string shut_string)
set_option linter.unusedVariables false

set_option maxRecDepth 100000 in
set_option maxHeartbeats 2000000 in
theorem walk (a0 : Option Addr) (len0 cap0 : Nat) (z0 : List Int) (w : World) (w0 : IsRow .u8 w a0 len0 cap0 z0) :
    Calls Try.prog 11 #[.slice a0 len0 cap0] w fun e w' => e = .returned (.bool true) ∧ Below w.heap.size w w' := by
  by_cases hbig : 1048576 < len0
  · go_enter Try.func11, Try.ntmps11
    go_wp2
    go_ret
    exact ⟨rfl, bR⟩
  have hcap := row_cap w0
  have hby := Lib.hid (row_bytes w0)
  clear w0
  go_enter Try.func11, Try.ntmps11
  go_wp2_with fail
  refine (DrawHitsLru_any a0 len0 cap0 w hby.out hcap (by omega)).mono ?_
  rintro e w1 ⟨A, c, l, n, rfl, hks, hlc, hl, hn1, hn2, hb1⟩
  have HKS := Lib.hid hks
  have HB := Lib.hid hb1
  clear hks hb1
  have K1 := fun W (hw : Below w1.heap.size w1 W) => HitsLru_any A c l n W (HKS.out.now (Nat.le_refl _) hw) hlc (by omega)
  have K2 := fun W (hw : Below w1.heap.size w1 W) => sHitsLru_any A c l n W (HKS.out.now (Nat.le_refl _) hw) (by omega)
  have K3 := fun W (hw : Below w1.heap.size w1 W) => HitsBest_any A c l n W (HKS.out.now (Nat.le_refl _) hw) hlc (by omega)
  by_cases hr : rval l n = true
  · have hC : cval Tr.lru l n = (Tr.lru l n.toNat : Int) := by unfold cval; rw [if_pos hr]
    have hC3 : cval Tr.best l n = (Tr.best l n.toNat : Int) := by unfold cval; rw [if_pos hr]
    obtain ⟨h1, h2, h40, hn1', hn8⟩ := rval_parts hr
    have HLE : Hid (Tr.lru l n.toNat + Tr.nd l ≤ l.length) := Tr.lru_le_firsts n.toNat
    have HEQ : Hid (Tr.nd l ≤ n.toNat → Tr.lru l n.toNat + Tr.nd l = l.length ∧ Tr.best l n.toNat + Tr.nd l = l.length) := fun h => ⟨Tr.lru_enough n.toNat (by omega) h, Tr.best_enough n.toNat (by omega) h⟩
    simp only [hr, hC, hC3] at K1 K2 K3
    generalize Tr.lru l n.toNat = C1 at *
    generalize Tr.best l n.toNat = C3 at *
    have H1 := Lib.hid K1
    have H2 := Lib.hid K2
    have H3 := Lib.hid K3
    clear K1 K2 K3 hr hC hC3 h1 h2
    go_wp2_with fail
    refine (H1.out _ bR).mono ?_
    rintro e w2 ⟨rfl, hb2'⟩
    have hb2 := bT bR hb2'
    go_wp2_with fail
    refine (H2.out _ hb2).mono ?_
    rintro e w3 ⟨rfl, hb3'⟩
    have hb3 := bT hb2 hb3'
    go_wp2
    go_loopw [9, 10] (fun fu u wr => ∃ k : Nat, k ≤ l.length ∧ u = .int .i64 k ∧ fu = .int .i64 ((Tr.nd (l.take k) : Nat) : Int) ∧ Below w3.heap.size w3 wr) (fun _ u _ => l.length - (intOf u).toNat)
    case atStart => exact ⟨0, by omega, rfl, rfl, bR⟩
    case round =>
      obtain ⟨k, hk, rfl, rfl, hb⟩ := hrel
      by_cases hlt : k < l.length
      · obtain ⟨w5, rfl⟩ : ∃ w5, w5 = wr := ⟨_, rfl⟩
        have hbl := bT hb3 hb
        obtain ⟨b, o, x, y, hTe, hbb, c1', c2', e1⟩ := (HKS.out.now (Nat.le_refl _) hbl).key2 hlt
        subst hTe
        have hF : Tr.nd (l.take k) ≤ k := by have := Tr.nd_le (l.take k); rw [List.length_take] at this; omega
        have HFS : Hid (Tr.nd (l.take (k + 1)) = Tr.nd (l.take k) + if (x, y) ∈ l.take k then 0 else 1) := by
          show _ = _
          rw [Tr.nd_take_succ k hlt]
          rw [List.getElem?_eq_getElem hlt] at e1
          injection e1 with e1
          rw [e1]
        have HK5 := Lib.hid (HKS.out.now (Nat.le_refl _) hbl)
        have C1' := Lib.hid c1'
        have C2' := Lib.hid c2'
        clear e1 c1' c2'
        go_wp2
        go_loopw [11, 12] (fun fu u wr => ∃ (r : Nat) (B : Bool), r ≤ k ∧ u = .int .i64 r ∧ fu = .bool B ∧ Hid (B = decide ((x, y) ∉ l.take r)) ∧ Below w5.heap.size w5 wr) (fun _ u _ => k - (intOf u).toNat)
        case atStart => exact ⟨0, true, by omega, rfl, rfl, by simp [Hid], bR⟩
        case round =>
          obtain ⟨r, B, hr, rfl, rfl, hf, hb'⟩ := hrel
          by_cases hlr : r < k
          · obtain ⟨b', o', x', y', hTe', hbb', d1, d2, e2⟩ := (HK5.out.now (Nat.le_refl _) hb').key2 (k := r) (by omega)
            injection hTe' with hTe'
            injection hTe' with h1 h2
            subst h1 h2
            have c1 := (hb'.cell (p := ⟨b, o + k * 2, none⟩) hbb).trans C1'.out
            have c2 := (hb'.cell (p := ⟨b, o + k * 2 + 1, none⟩) hbb).trans C2'.out
            have he := fun W => neq_key x' y' x y W
            have HTS : Hid (l.take (r + 1) = l.take r ++ [(x', y')]) := by show _ = _; rw [List.take_add_one, e2]; rfl
            clear e2
            cases B with
            | false =>
              have HB' : Hid (false = decide ((x, y) ∉ l.take (r + 1))) := by
                have h := hf.out
                show _ = _
                rw [HTS.out]
                simp at h ⊢
                exact fun h' => absurd h h'
              go_wp2
              go_quiet (fail)
              go_wp2
              go_roundw
              case rel => exact ⟨r + 1, false, by omega, by go_num, rfl, HB', bDN hb'⟩
              case measure => simp [intOf]; omega
            | true =>
              by_cases hxy : (x', y') = (x, y)
              · have hq : keq x' y' x y = true := keq_true hxy
                have HB' : Hid (false = decide ((x, y) ∉ l.take (r + 1))) := by
                  show _ = _
                  rw [HTS.out, hxy]
                  simp
                clear hxy
                go_wp2
                go_quiet (fail)
                go_wp2
                go_roundw
                case rel => exact ⟨r + 1, false, by omega, by go_num, rfl, HB', bDN hb'⟩
                case measure => simp [intOf]; omega
              · have hq : keq x' y' x y = false := keq_false hxy
                have HB' : Hid (true = decide ((x, y) ∉ l.take (r + 1))) := by
                  have h := hf.out
                  show _ = _
                  rw [HTS.out]
                  simp only [Eq.comm (a := true), decide_eq_true_eq, List.mem_append, List.mem_singleton] at h ⊢
                  exact fun h' => h'.elim h fun e => hxy e.symm
                clear hxy
                go_wp2
                go_quiet (fail)
                go_wp2
                go_roundw
                case rel => exact ⟨r + 1, true, by omega, by go_num, rfl, HB', bDN hb'⟩
                case measure => simp [intOf]; omega
          · obtain rfl : r = k := by omega
            cases B with
            | false =>
              have hin : (x, y) ∈ l.take r := by simpa using hf.out
              have HN : Hid (Tr.nd (l.take (r + 1)) = Tr.nd (l.take r)) := by show _ = _; rw [HFS.out, if_pos hin]; rfl
              clear hin
              generalize Tr.nd (l.take r) = F at *
              go_wp2
              go_roundw
              case rel => exact ⟨r + 1, by omega, by go_num, by rw [HN.out], bT hb hb'⟩
              case measure => simp [intOf]; omega
            | true =>
              have hin : (x, y) ∉ l.take r := by have h := hf.out; rw [eq_comm, decide_eq_true_eq] at h; exact h
              have HN : Hid (Tr.nd (l.take (r + 1)) = Tr.nd (l.take r) + 1) := by show _ = _; rw [HFS.out, if_neg hin]
              clear hin
              generalize Tr.nd (l.take r) = F at *
              go_wp2
              go_roundw
              case rel => exact ⟨r + 1, by omega, by go_num, by rw [HN.out]; rfl, bT hb hb'⟩
              case measure => simp [intOf]; omega
      · obtain rfl : k = l.length := by omega
        have hbl := bT hb3 hb
        simp only [List.take_length]
        have hdl := Tr.nd_le l
        have hqa := HLE.out
        have hqe := HEQ.out
        generalize Tr.nd l = D at *
        have hq4 : (C1 : Int) ≤ (l.length : Int) - (D : Int) := by omega
        have hws : IntKind.i64.wrap ((l.length : Int) - (D : Int)) = (l.length : Int) - (D : Int) := IntWalk.i64_in _ (by omega)
        by_cases hen : D ≤ n.toNat
        · obtain ⟨g1, g2⟩ := hqe hen
          have hq1 : ((C1 : Int) == (l.length : Int) - (D : Int)) = true := by rw [beq_iff_eq]; omega
          have hq2 : ((C3 : Int) == (C1 : Int)) = true := by rw [beq_iff_eq]; omega
          have hq3 : ¬ n < (D : Int) := by omega
          have hq5 : ((C3 : Nat) == C1) = true := by rw [beq_iff_eq]; omega
          clear hqe hqa g1 g2 hen hdl
          go_wp2_with fail
          refine (H3.out _ hbl).mono ?_
          rintro e w6 ⟨rfl, hb6'⟩
          have hb6 := bT hbl hb6'
          go_wp2
          go_ret
          exact ⟨rfl, bT HB.out hb6⟩
        · have hq3 : n < (D : Int) := by omega
          clear hqe hqa hen hdl
          go_wp2_with fail
          refine (H3.out _ hbl).mono ?_
          rintro e w6 ⟨rfl, hb6'⟩
          have hb6 := bT hbl hb6'
          go_wp2
          go_ret
          exact ⟨rfl, bT HB.out hb6⟩
  · have hr' : rval l n = false := by simpa using hr
    have hC : cval Tr.lru l n = 0 := by unfold cval; rw [if_neg hr]
    simp only [hr', hC] at K1 K2
    have H1 := Lib.hid K1
    have H2 := Lib.hid K2
    clear K1 K2 K3 hr hr' hC
    go_wp2_with fail
    refine (H1.out _ bR).mono ?_
    rintro e w2 ⟨rfl, hb2'⟩
    have hb2 := bT bR hb2'
    go_wp2_with fail
    refine (H2.out _ hb2).mono ?_
    rintro e w3 ⟨rfl, hb3'⟩
    have hb3 := bT hb2 hb3'
    go_wp2
    go_ret
    exact ⟨rfl, bT HB.out hb3⟩

set_option maxRecDepth 100000 in
theorem closed : joinedFacts Try.prog 11 Try.f11 Rows.fnLruEnoughSpec Rows.fnLruEnoughRow = true := by
  unfold joinedFacts
  rw [may_enter, lifts_final, make_cut]
  refine Eq.trans ?_ (Eq.refl _)
  kernel_rfl
set_option maxRecDepth 100000 in
theorem lifted (os : Os) (started : os.Started) (H : Type) (enc : TypeId × Value → H) :
    ReturnsInHanded {} Try.checked os 11 .any (Rows.fnLruEnoughSpec.pre6 enc Try.prog Try.f11 Rows.fnLruEnoughRow.domain false) (Rows.fnLruEnoughSpec.post enc Try.prog Try.f11 false true false false) := by
  refine returnsInHanded_of_change (C := Try.checked) own started (by kernel_rfl) Try.func11
    (ChangeSpec.witness6 (enc := enc) (C := Try.checked) false ⟨#[], #[.slice none 0 0], []⟩ 8 (by kernel_rfl) (by kernel_rfl) (by kernel_rfl) (by kernel_rfl)) ?_
  intro W base args ds gs before hval0 hW hcnd _
  have hval : ∀ (j : Nat) t v, Try.f11.params[j]? = some t → args[j]? = some v → Value.okWide Try.prog W .any base t v := hval0
  have hW' := hW
  obtain ⟨p, q, hA0, hV, rfl, hfz, hnd⟩ := hW
  have hA : DataW.TrodAll enc Try.prog W 0 (fun _ => true) true Try.f11.params.toList args.toList ds p := hA0
  rw [Try.params11] at hA hval
  obtain ⟨v0, vs0, d0, ds0, p0, q0, hargs, rfl, rfl, h0, r0⟩ := trodAll_cons hA
  obtain ⟨rfl, rfl, rfl⟩ := trodAll_nil r0
  obtain rfl : args = #[v0] := by cases args; simp_all
  obtain ⟨rfl, rfl⟩ := trodVars_none hV
  obtain ⟨a0, len0, cap0, rfl⟩ := okWide_slice Try.underlying22 (hval 0 22 v0 rfl rfl)
  have k0 := h0
  have lt0 : ∀ x ∈ p0, x.block < W.heap.size := by obtain ⟨m, hm⟩ := k0; exact DataW.trod_lt m _ _ _ hm
  obtain ⟨z0, w0⟩ : ∃ zs, IsRow .u8 W a0 len0 cap0 zs := by
    obtain ⟨fuel, hf⟩ := h0
    rcases open_ints Try.underlying22 Try.underlying5 (by kernel_rfl) hf with ⟨hcs, _⟩ | ⟨x, l, c, zs, hcs, _, hl, hm, hz, _, hcell, hwz⟩
    · simp [Value.cells] at hcs
      obtain ⟨rfl, rfl, rfl⟩ := hcs
      exact ⟨[], .inl ⟨rfl, rfl, rfl, rfl⟩⟩
    · simp [Value.cells] at hcs
      obtain ⟨rfl, rfl, rfl⟩ := hcs
      exact ⟨zs, .inr ⟨_, rfl, hl, hm, by simpa using hz, hcell, hwz⟩⟩
  clear hA0 hval0
  refine (walk a0 len0 cap0 z0 W w0).mono fun e W' ⟨he, bel⟩ => ?_
  subst he
  exact ⟨_, rfl, _, _, _, [], _, [], hW', trodAll_mk1 (shut_bool Try.underlying4 _), (trodAll_cons_mk (Below.trod laidOut (by kernel_rfl) (of_decide_eq_true (by kernel_rfl)) k0 bel lt0) trodAll_mk0), rfl, bel.frame _, fun h => by cases h⟩

theorem over : Rows.fnLruEnoughRow.holds Try.pinned (OpenSpec.ofChange Rows.fnLruEnoughSpec) :=
  OpenClaim.holds_of_wide 11 Try.f11 rfl rfl rfl rfl rfl rfl rfl ⟨rfl, rfl, rfl, rfl, rfl⟩ rfl rfl rfl rfl rfl (by kernel_rfl) Try.func11 closed
    (of_decide_eq_true (by kernel_rfl)) (by unfold Func.isWrapper; rw [if_neg (of_decide_eq_false (by kernel_rfl))]; exact ⟨rfl, rfl⟩)
    (fun os started H enc _ => lifted os started H enc)

theorem proved : Rows.FnLruEnoughSaid := over
#print axioms proved
end Go.Proofs.Ytmamjddhcbhdoaa.lLruEnough
