import Derived.Test.YtmamjddhcbhdoaaSpec2
namespace Go.Proofs.Ytmamjddhcbhdoaa
open Go.RowKit

theorem fari_one (f : Key → Nat) (l : List Key) (hl : 0 < l.length) : fari f l 1 = 0 := by
  have h : l[0]? = some l[0] := List.getElem?_eq_getElem hl
  rw [fari_succ f l 0 h (show l[fari f l 0]? = some l[0] from h)]
  simp [fari]

set_option maxHeartbeats 2000000 in
theorem sHitsBest_yes (T : Option Addr) (tc : Nat) (t : List Key) (m : Nat) (w : World) (ht : Ks w.heap.size w T t) (hr : rval t m = true) :
    Calls Try.prog 21 #[.slice T t.length tc, .int .i64 m] w fun r w' => r = .returned (.tuple #[.int .i64 (Tr.best t m), .bool true]) ∧ Below w.heap.size w w' := by
  obtain ⟨h1, h2, h40, hn1, hn8⟩ := rval_parts hr
  have hm1 : 1 ≤ m := by omega
  have hm8 : m ≤ 8 := by omega
  have htl : t.length ≤ 1048576 := by omega
  have hR := l9Right_any T tc t m w ht (by omega)
  rw [hr] at hR
  have HR := Lib.hid hR
  clear hr hR h1 h2
  go_enter Try.func21, Try.ntmps21
  go_wp2_with fail
  refine HR.out.mono ?_
  rintro e w1 ⟨rfl, hb0⟩
  replace ht := ht.now (Nat.le_refl _) hb0
  have HB0 := Lib.hid hb0
  clear hb0
  go_wp2
  go_loopw [6, 7, 8] (fun held n u wr => ∃ (k nn : Nat) (hl : List Key), k ≤ t.length ∧ u = .int .i64 k ∧ n = .int .i64 nn ∧ Hid (Tr.hst false (Tr.vFar t) m t k = (hl, nn)) ∧ wr.ownsRow w1.heap.size 35 2 held hl.length (kcells hl) ∧ Below w1.heap.size w1 wr) (fun _ _ u _ => t.length - (intOf u).toNat)
  case atStart => exact ⟨0, 0, [], by omega, rfl, rfl, rfl, by
    refine ⟨rfl, .inr ⟨w1.heap.size, 0, #[], rfl, Nat.le_refl _, heap_alloc_new w1 _, Nat.le_refl _, by simp [maxLen], rfl, rfl⟩⟩, bA bR⟩
  case round =>
    obtain ⟨k, nn, hl, hk, rfl, rfl, hst, hown, hb⟩ := hrel
    obtain ⟨hlen, hnk⟩ := hst_len' (Tr.picks_far t) hm1 hst.out
    by_cases hlt : k < t.length
    · obtain ⟨b, o, x, y, rfl, hbb, c1, c2, e1'⟩ := (ht.below hb).key2 hlt
      have e1 := Lib.hid e1'
      obtain ⟨A, c, rfl, hlc, hcm, hrd⟩ := own_rd hown
      have hsz := hb.size
      have hrd' := Lib.hid hrd
      have HOWN := Lib.hid hown
      have HT := Lib.hid ht
      clear e1' hrd hown ht
      by_cases hin : (x, y) ∈ hl
      · have hp := List.idxOf_lt_length_of_mem hin
        have hix : idx hl (x, y) = (hl.idxOf (x, y) : Int) := by unfold idx; rw [if_pos hin]
        have hI := l9In_any A c hl x y wr hrd'.out (by omega)
        rw [hix] at hI
        generalize hl.idxOf (x, y) = p at hp hI
        have HI := Lib.hid hI
        have HSTEP : Hid (Tr.hst false (Tr.vFar t) m t (k + 1) = (hl, nn + 1)) := step_hit hst.out e1.out hin
        clear hI hix
        go_wp2_with fail
        refine HI.out.mono ?_
        rintro e w2 ⟨rfl, hb2⟩
        have HOW2 := Lib.hid (own_kept HOWN.out hb2)
        have hbw2 := Lib.hid (bT hb hb2)
        clear hb2
        go_wp2
        go_roundw
        case rel => exact ⟨k + 1, nn + 1, hl, by omega, by go_num, by go_num, HSTEP, HOW2.out, hbw2.out⟩
        case measure => simp [intOf]; omega
      · have hix : idx hl (x, y) = -1 := by unfold idx; rw [if_neg hin]
        have hI := l9In_any A c hl x y wr hrd'.out (by omega)
        rw [hix] at hI
        have HI := Lib.hid hI
        clear hI hix
        go_wp2_with fail
        refine HI.out.mono ?_
        rintro e w2 ⟨rfl, hb2⟩
        have hbw2 := bT hb hb2
        have hown : w2.ownsRow w1.heap.size 35 2 (.slice A hl.length c) hl.length (kcells hl) := own_kept HOWN.out hb2
        by_cases hfull : hl.length = m
        · have hq : ((hl.length : Int) == (m : Int)) = true := by rw [beq_iff_eq]; omega
          have HSTEP : Hid (Tr.hst false (Tr.vFar t) m t (k + 1) = (hl.eraseIdx (fari (nxt t k) hl hl.length) ++ [(x, y)], nn)) := by
            have h := step_miss hst.out e1.out hin
            rw [if_pos hfull] at h
            rw [fari_far]
            exact h
          have hpos : 0 < hl.length := by omega
          have HFULL := Lib.hid hfull
          have HOW2 := Lib.hid hown
          have HKS2 := Lib.hid (ks_own hown)
          have HF1 := Lib.hid (fari_one (nxt t k) hl hpos)
          have hsz2 := hbw2.size
          clear hown hfull hst
          go_wp2
          go_loopw [9, 10] (fun f u wi => ∃ q F : Nat, 1 ≤ q ∧ q ≤ hl.length ∧ u = .int .i64 q ∧ f = .int .i64 F ∧ F < hl.length ∧ Hid (F = fari (nxt t k) hl q) ∧ Below w2.heap.size w2 wi) (fun _ u _ => hl.length - (intOf u).toNat)
          case atStart => exact ⟨1, 0, by omega, by omega, rfl, rfl, hpos, HF1.out.symm, bR⟩
          case round =>
            obtain ⟨q, F, hq1, hqn, rfl, rfl, hFl, hF, hbi⟩ := hrel
            by_cases hql : q < hl.length
            · obtain ⟨b1, o1, x1, y1, eA, hbb1, d1, d2, g1⟩ := (HKS2.out.below hbi).key2 hql
              obtain ⟨b2, o2, x2, y2, eA2, _, d3, d4, g2⟩ := (HKS2.out.below hbi).key2 hFl
              subst eA
              injection eA2 with eA2
              injection eA2 with e3 e4
              subst e3 e4
              have hs : Hid (fari (nxt t k) hl (q + 1) = if nxt t k (x2, y2) < nxt t k (x1, y1) then q else F) := by
                rw [hF.out] at g2 ⊢; exact fari_succ _ _ _ g1 g2
              have htw : Below w1.heap.size w1 wr := bT hbw2 hbi
              have K1 := fun W (hw : Below wr.heap.size wr W) => l9Next_any (some ⟨b, o, none⟩) tc t k x1 y1 W (HT.out.now (Nat.le_refl _) (bT htw hw)) (by omega) (by omega) (by omega)
              have K2 := fun W (hw : Below wr.heap.size wr W) => l9Next_any (some ⟨b, o, none⟩) tc t k x2 y2 W (HT.out.now (Nat.le_refl _) (bT htw hw)) (by omega) (by omega) (by omega)
              rw [Int.toNat_natCast] at K1 K2
              have hszi := hbi.size
              generalize nxt t k (x1, y1) = N1 at hs K1
              generalize nxt t k (x2, y2) = N2 at hs K2
              have HK1 := Lib.hid K1
              have HK2 := Lib.hid K2
              clear K1 K2 g1 g2
              have q1 := xcell d1 (by simp; omega)
              have q2 := xcell d2 (by simp; omega)
              have q3 := xcell d3 (by simp; omega)
              have q4 := xcell d4 (by simp; omega)
              by_cases hgt : N2 < N1
              · have HS : Hid (q = fari (nxt t k) hl (q + 1)) := by show _ = _; rw [hs.out, if_pos hgt]
                go_wp2
                refine wp_region_ext (by kernel_rfl) (by kernel_rfl) ?_
                repeat (go_big_quiet_step ((first | (go_at_call_of 36 x1; exact ext_call (HK1.out _ (Ext.ok _))) | (go_at_call_of 36 x2; exact ext_call (HK2.out _ (Ext.ok _))))))
                refine wpQuiet_nil ?_
                intro _ hw'
                obtain ⟨⟨wq, hq⟩, hw''⟩ := hw'
                subst hw''
                try dsimp only
                go_wp2
                go_roundw
                case rel => exact ⟨q + 1, q, by omega, by omega, by go_num, rfl, hql, HS, bT hbi (by assumption)⟩
                case measure => simp [intOf]; omega
              · have HS : Hid (F = fari (nxt t k) hl (q + 1)) := by show _ = _; rw [hs.out, if_neg hgt]
                go_wp2
                refine wp_region_ext (by kernel_rfl) (by kernel_rfl) ?_
                repeat (go_big_quiet_step ((first | (go_at_call_of 36 x1; exact ext_call (HK1.out _ (Ext.ok _))) | (go_at_call_of 36 x2; exact ext_call (HK2.out _ (Ext.ok _))))))
                refine wpQuiet_nil ?_
                intro _ hw'
                obtain ⟨⟨wq, hq⟩, hw''⟩ := hw'
                subst hw''
                try dsimp only
                go_wp2
                go_roundw
                case rel => exact ⟨q + 1, F, by omega, by omega, by go_num, rfl, hFl, HS, bT hbi (by assumption)⟩
                case measure => simp [intOf]; omega
            · have hFF : Hid (F = fari (nxt t k) hl hl.length) := by show _ = _; rw [show hl.length = q by omega]; exact hF.out
              have hD := l9Drop_any A c hl F wr (HKS2.out.now (Nat.le_refl _) hbi) (by omega) hlc (by omega) (by omega)
              rw [Int.toNat_natCast] at hD
              have hel : (hl.eraseIdx F).length = hl.length - 1 := List.length_eraseIdx_of_lt (by omega)
              have HD := Lib.hid hD
              have HEL := Lib.hid hel
              have hbwi := bT hbw2 hbi
              clear hD hel
              go_wp2_with fail
              refine HD.out.mono ?_
              rintro e w3 ⟨v3, rfl, hown3, hb3'⟩
              have hb23 := bT hbi hb3'
              have hb3 := bT hbwi hb3'
              have hown3b : w3.ownsRow w1.heap.size 35 2 v3 (hl.length - 1) (kcells (hl.eraseIdx F)) := own_mono hown3 hbwi.size
              have q0 : w3.cell? ⟨b, o + k * 2, none⟩ = some (.int .i64 x) := ((bT hb2 hb23).cell (p := ⟨b, o + k * 2, none⟩) (Nat.lt_of_lt_of_le hbb hsz)).trans c1
              have q1 : w3.cell? ⟨b, o + k * 2 + 1, none⟩ = some (.int .i64 y) := ((bT hb2 hb23).cell (p := ⟨b, o + k * 2 + 1, none⟩) (Nat.lt_of_lt_of_le hbb hsz)).trans c2
              obtain ⟨v4, w4, hrun, hown4, hg4, _⟩ := run_append_key w1.heap.size w3 _ (hl.length - 1) _ x y hown3b HEL.out (by omega) hb3.size
              have hb4 := bG (bA hb3 (o := .cells #[.int .i64 x, .int .i64 y] 35)) hg4 (own_block hown3b)
              rw [show hl.length - 1 + 1 = (hl.eraseIdx F ++ [(x, y)]).length by have h9 := HEL.out; simp only [List.length_append, List.length_cons, List.length_nil]; omega] at hown4
              have HOW4 := Lib.hid hown4
              have HST2 : Hid (Tr.hst false (Tr.vFar t) m t (k + 1) = (hl.eraseIdx F ++ [(x, y)], nn)) := by show _ = _; rw [HSTEP.out, ← hFF.out]
              clear hown3 hown3b hown4 hg4
              go_wp2_with (at_builtin; refine wpList_append_run _ rfl (.tmp 60) (.tmp 65) 23 rfl _ _ _ _ rfl rfl hrun ?_)
              go_roundw
              case rel => exact ⟨k + 1, nn, _, by omega, by go_num, by go_num, HST2, HOW4.out, hb4⟩
              case measure => simp [intOf]; omega
        · have hq : ((hl.length : Int) == (m : Int)) = false := by rw [beq_eq_false_iff_ne]; omega
          have HSTEP : Hid (Tr.hst false (Tr.vFar t) m t (k + 1) = (hl ++ [(x, y)], nn)) := by
            have h := step_miss hst.out e1.out hin
            rw [if_neg hfull] at h
            exact h
          have q0 : w2.cell? ⟨b, o + k * 2, none⟩ = some (.int .i64 x) := (hb2.cell (p := ⟨b, o + k * 2, none⟩) (Nat.lt_of_lt_of_le hbb hsz)).trans c1
          have q1 : w2.cell? ⟨b, o + k * 2 + 1, none⟩ = some (.int .i64 y) := (hb2.cell (p := ⟨b, o + k * 2 + 1, none⟩) (Nat.lt_of_lt_of_le hbb hsz)).trans c2
          obtain ⟨v4, w4, hrun, hown4, hg4, _⟩ := run_append_key w1.heap.size w2 _ hl.length _ x y hown rfl (by omega) hbw2.size
          have hb4 := bG (bA hbw2 (o := .cells #[.int .i64 x, .int .i64 y] 35)) hg4 (own_block hown)
          rw [show hl.length + 1 = (hl ++ [(x, y)]).length by rw [List.length_append]; rfl] at hown4
          have HOW4 := Lib.hid hown4
          clear hown hown4 hg4 hfull
          go_wp2_with (at_builtin; refine wpList_append_run _ rfl (.tmp 60) (.tmp 65) 23 rfl _ _ _ _ rfl rfl hrun ?_)
          go_roundw
          case rel => exact ⟨k + 1, nn, _, by omega, by go_num, by go_num, HSTEP, HOW4.out, hb4⟩
          case measure => simp [intOf]; omega
    · have HE : Hid ((Tr.best t m : Int) = (nn : Int)) := by
        show _ = _
        unfold Tr.best
        rw [show t.length = k by omega, hst.out]
      go_wp2
      go_ret2
      exact ⟨by rw [HE.out]; rfl, bT HB0.out hb⟩

theorem sHitsBest_any (T : Option Addr) (tc : Nat) (t : List Key) (n : Int) (w : World) (ht : Ks w.heap.size w T t) (hl : t.length ≤ 9223372036854775807) :
    Calls Try.prog 21 #[.slice T t.length tc, .int .i64 n] w fun r w' => r = .returned (.tuple #[.int .i64 (cval Tr.best t n), .bool (rval t n)]) ∧ Below w.heap.size w w' := by
  by_cases hr : rval t n = true
  · obtain ⟨h1, h2, h40, hn1, hn8⟩ := rval_parts hr
    obtain ⟨m, rfl⟩ := Int.eq_ofNat_of_zero_le (show 0 ≤ n by omega)
    have HV : cval Tr.best t m = (Tr.best t m : Int) := by unfold cval; rw [if_pos hr, Int.toNat_natCast]
    rw [HV, hr]
    exact sHitsBest_yes T tc t m w ht hr
  · have hr' : rval t n = false := by simpa using hr
    have HV : Hid (cval Tr.best t n = 0) := by show _ = _; unfold cval; rw [if_neg hr]
    have hR := l9Right_any T tc t n w ht hl
    rw [hr'] at hR
    have HR := Lib.hid hR
    have HRV := Lib.hid hr'
    clear ht hr hr' hR
    go_enter Try.func21, Try.ntmps21
    go_wp2_with fail
    refine HR.out.mono ?_
    rintro e w1 ⟨rfl, hb⟩
    go_wp2
    go_ret2
    exact ⟨by rw [HV.out, HRV.out]; rfl, hb⟩
end Go.Proofs.Ytmamjddhcbhdoaa
