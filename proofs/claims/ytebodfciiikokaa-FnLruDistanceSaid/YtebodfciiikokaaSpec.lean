import Derived.Test.YtebodfciiikokaaTop
namespace Go.Proofs.Ytebodfciiikokaa
open Go.RowKit

set_option maxHeartbeats 1000000 in
theorem shits_fifo (T : Option Addr) (tc : Nat) (t : List Key) (m : Nat) (w : World) (ht : Ks w.heap.size w T t) (htl : t.length ≤ 1048576) (hm1 : 1 ≤ m) (hm8 : m ≤ 8) :
    Calls Try.prog 37 #[.slice T t.length tc, .int .i64 m, .bool false] w
      fun r w' => r = .returned (.int .i64 (Tr.hst false Tr.vFirst m t t.length).2) ∧ Below w.heap.size w w' := by
  go_enter Try.func37, Try.ntmps37
  go_wp2
  go_loopw [7, 8, 9] (fun held n u wr => ∃ (k nn : Nat) (hl : List Key), k ≤ t.length ∧ u = .int .i64 k ∧ n = .int .i64 nn ∧ Hid (Tr.hst false Tr.vFirst m t k = (hl, nn)) ∧ wr.ownsRow w.heap.size 50 2 held hl.length (kcells hl) ∧ Below w.heap.size w wr) (fun _ _ u _ => t.length - (intOf u).toNat)
  case atStart => exact ⟨0, 0, [], by omega, rfl, rfl, rfl, by
    refine ⟨rfl, .inr ⟨w.heap.size, 0, #[], rfl, Nat.le_refl _, heap_alloc_new w _, Nat.le_refl _, by simp [maxLen], rfl, rfl⟩⟩, bA bR⟩
  case round =>
    obtain ⟨k, nn, hl, hk, rfl, rfl, hst, hown, hb⟩ := hrel
    obtain ⟨hlen, hnk⟩ := hst_len' Tr.picks_first hm1 hst.out
    by_cases hlt : k < t.length
    · obtain ⟨b, o, x, y, rfl, hbb, c1, c2, e1'⟩ := (ht.below hb).key2 hlt
      have e1 := Lib.hid e1'
      obtain ⟨A, c, rfl, hlc, hcm, hrd⟩ := own_rd hown
      have hsz := hb.size
      have hrd' := Lib.hid hrd
      have HOWN := Lib.hid hown
      have HT := Lib.hid ht
      clear e1' hrd hown ht
      by_cases hin : (x, y) ∈ hl
      · have hp := List.idxOf_lt_length_of_mem hin
        have hix : idx hl (x, y) = (hl.idxOf (x, y) : Int) := by unfold idx; rw [if_pos hin]
        have hI := l9In_any A c hl x y wr hrd'.out (by omega)
        rw [hix] at hI
        have hpe := eraseIdx_idx hl (x, y)
        generalize hl.idxOf (x, y) = p at hp hI hpe
        have HI := Lib.hid hI
        have HPE := Lib.hid hpe
        clear hI hix hpe
        go_wp2_with fail
        refine HI.out.mono ?_
        rintro e w2 ⟨rfl, hb2⟩
        have hbw2 := bT hb hb2
        have hown : w2.ownsRow w.heap.size 50 2 (.slice A hl.length c) hl.length (kcells hl) := own_kept HOWN.out hb2
        have HSTEP : Hid (Tr.hst false Tr.vFirst m t (k + 1) = (hl, nn + 1)) := step_hit hst.out e1.out hin
        have HOW2 := Lib.hid hown
        clear hown
        go_wp2
        go_roundw
        case rel => exact ⟨k + 1, nn + 1, hl, by omega, by go_num, by go_num, HSTEP, HOW2.out, hbw2⟩
        case measure => simp [intOf]; omega
      · have hix : idx hl (x, y) = -1 := by unfold idx; rw [if_neg hin]
        have hI := l9In_any A c hl x y wr hrd'.out (by omega)
        rw [hix] at hI
        have HI := Lib.hid hI
        clear hI hix
        go_wp2_with fail
        refine HI.out.mono ?_
        rintro e w2 ⟨rfl, hb2⟩
        have hbw2 := bT hb hb2
        have hown : w2.ownsRow w.heap.size 50 2 (.slice A hl.length c) hl.length (kcells hl) := own_kept HOWN.out hb2
        by_cases hfull : hl.length = m
        · have hq : ((hl.length : Int) == (m : Int)) = true := by rw [beq_iff_eq]; omega
          have HSTEP : Hid (Tr.hst false Tr.vFirst m t (k + 1) = (hl.eraseIdx 0 ++ [(x, y)], nn)) := by
            have h := step_miss hst.out e1.out hin
            rw [if_pos hfull] at h
            exact h
          have hD := l9Drop_any A c hl 0 w2 (ks_own hown) (by omega) hlc (by omega) (by omega)
          have hel : (hl.eraseIdx 0).length = hl.length - 1 := List.length_eraseIdx_of_lt (by omega)
          have HD := Lib.hid hD
          have HEL := Lib.hid hel
          clear hown hfull hD hel
          go_wp2_with fail
          refine HD.out.mono ?_
          rintro e w3 ⟨v3, rfl, hown3, hb3'⟩
          have hb3 := bT hbw2 hb3'
          have hown3b : (w3).ownsRow w.heap.size 50 2 _ (hl.length - 1) (kcells (hl.eraseIdx 0)) := own_mono hown3 (by first | exact Nat.le_refl _ | exact hbw2.size)
          have q0 : (w3).cell? ⟨b, o + k * 2, none⟩ = some (.int .i64 x) := ((bT hb2 hb3').cell (p := ⟨b, o + k * 2, none⟩) (Nat.lt_of_lt_of_le hbb hsz)).trans c1
          have q1 : (w3).cell? ⟨b, o + k * 2 + 1, none⟩ = some (.int .i64 y) := ((bT hb2 hb3').cell (p := ⟨b, o + k * 2 + 1, none⟩) (Nat.lt_of_lt_of_le hbb hsz)).trans c2
          obtain ⟨v4, w4, hrun, hown4, hg4, _⟩ := run_append_key w.heap.size (w3) _ (hl.length - 1) _ x y hown3b HEL.out (by omega) hb3.size
          have hb4 := bG (bA hb3 (o := .cells #[.int .i64 x, .int .i64 y] 50)) hg4 (own_block hown3b)
          rw [show (hl.length - 1) + 1 = ((hl.eraseIdx 0) ++ [(x, y)]).length by have h9 := HEL.out; simp only [List.length_append, List.length_cons, List.length_nil]; try omega] at hown4
          have HOW4 := Lib.hid hown4
          clear hown3 hown3b hown4 hg4
          go_wp2_with (at_builtin; refine wpList_append_run _ rfl (.tmp 39) (.tmp 44) 23 rfl _ _ _ _ rfl rfl hrun ?_)
          go_roundw
          case rel => exact ⟨k + 1, nn, _, by omega, by go_num, by go_num, HSTEP, HOW4.out, hb4⟩
          case measure => simp [intOf]; omega
        · have hq : ((hl.length : Int) == (m : Int)) = false := by rw [beq_eq_false_iff_ne]; omega
          have HSTEP : Hid (Tr.hst false Tr.vFirst m t (k + 1) = (hl ++ [(x, y)], nn)) := by
            have h := step_miss hst.out e1.out hin
            rw [if_neg hfull] at h
            exact h
          obtain ⟨w3, rfl⟩ : ∃ w3, w2 = w3 := ⟨_, rfl⟩
          have hb3' : Below w2.heap.size w2 w2 := bR
          have hown3 := hown
          clear hown
          have hb3 := bT hbw2 hb3'
          have hown3b : (w2).ownsRow w.heap.size 50 2 _ hl.length (kcells hl) := own_mono hown3 (by first | exact Nat.le_refl _ | exact hbw2.size)
          have q0 : (w2).cell? ⟨b, o + k * 2, none⟩ = some (.int .i64 x) := ((bT hb2 hb3').cell (p := ⟨b, o + k * 2, none⟩) (Nat.lt_of_lt_of_le hbb hsz)).trans c1
          have q1 : (w2).cell? ⟨b, o + k * 2 + 1, none⟩ = some (.int .i64 y) := ((bT hb2 hb3').cell (p := ⟨b, o + k * 2 + 1, none⟩) (Nat.lt_of_lt_of_le hbb hsz)).trans c2
          obtain ⟨v4, w4, hrun, hown4, hg4, _⟩ := run_append_key w.heap.size (w2) _ hl.length _ x y hown3b (rfl : hl.length = hl.length) (by omega) hb3.size
          have hb4 := bG (bA hb3 (o := .cells #[.int .i64 x, .int .i64 y] 50)) hg4 (own_block hown3b)
          rw [show hl.length + 1 = (hl ++ [(x, y)]).length by have h9 := (rfl : hl.length = hl.length); simp only [List.length_append, List.length_cons, List.length_nil]; try omega] at hown4
          have HOW4 := Lib.hid hown4
          clear hown3 hown3b hown4 hg4
          go_wp2_with (at_builtin; refine wpList_append_run _ rfl (.tmp 39) (.tmp 44) 23 rfl _ _ _ _ rfl rfl hrun ?_)
          go_roundw
          case rel => exact ⟨k + 1, nn, _, by omega, by go_num, by go_num, HSTEP, HOW4.out, hb4⟩
          case measure => simp [intOf]; omega
    · have HE : Hid (((Tr.hst false Tr.vFirst m t t.length).2 : Int) = (nn : Int)) := by
        show _ = _
        rw [show t.length = k by omega, hst.out]
      go_wp2
      go_ret
      exact ⟨by rw [HE.out]; rfl, hb⟩
set_option maxHeartbeats 1000000 in
theorem shits_lru (T : Option Addr) (tc : Nat) (t : List Key) (m : Nat) (w : World) (ht : Ks w.heap.size w T t) (htl : t.length ≤ 1048576) (hm1 : 1 ≤ m) (hm8 : m ≤ 8) :
    Calls Try.prog 37 #[.slice T t.length tc, .int .i64 m, .bool true] w
      fun r w' => r = .returned (.int .i64 (Tr.hst true Tr.vFirst m t t.length).2) ∧ Below w.heap.size w w' := by
  go_enter Try.func37, Try.ntmps37
  go_wp2
  go_loopw [7, 8, 9] (fun held n u wr => ∃ (k nn : Nat) (hl : List Key), k ≤ t.length ∧ u = .int .i64 k ∧ n = .int .i64 nn ∧ Hid (Tr.hst true Tr.vFirst m t k = (hl, nn)) ∧ wr.ownsRow w.heap.size 50 2 held hl.length (kcells hl) ∧ Below w.heap.size w wr) (fun _ _ u _ => t.length - (intOf u).toNat)
  case atStart => exact ⟨0, 0, [], by omega, rfl, rfl, rfl, by
    refine ⟨rfl, .inr ⟨w.heap.size, 0, #[], rfl, Nat.le_refl _, heap_alloc_new w _, Nat.le_refl _, by simp [maxLen], rfl, rfl⟩⟩, bA bR⟩
  case round =>
    obtain ⟨k, nn, hl, hk, rfl, rfl, hst, hown, hb⟩ := hrel
    obtain ⟨hlen, hnk⟩ := hst_len' Tr.picks_first hm1 hst.out
    by_cases hlt : k < t.length
    · obtain ⟨b, o, x, y, rfl, hbb, c1, c2, e1'⟩ := (ht.below hb).key2 hlt
      have e1 := Lib.hid e1'
      obtain ⟨A, c, rfl, hlc, hcm, hrd⟩ := own_rd hown
      have hsz := hb.size
      have hrd' := Lib.hid hrd
      have HOWN := Lib.hid hown
      have HT := Lib.hid ht
      clear e1' hrd hown ht
      by_cases hin : (x, y) ∈ hl
      · have hp := List.idxOf_lt_length_of_mem hin
        have hix : idx hl (x, y) = (hl.idxOf (x, y) : Int) := by unfold idx; rw [if_pos hin]
        have hI := l9In_any A c hl x y wr hrd'.out (by omega)
        rw [hix] at hI
        have hpe := eraseIdx_idx hl (x, y)
        generalize hl.idxOf (x, y) = p at hp hI hpe
        have HI := Lib.hid hI
        have HPE := Lib.hid hpe
        clear hI hix hpe
        go_wp2_with fail
        refine HI.out.mono ?_
        rintro e w2 ⟨rfl, hb2⟩
        have hbw2 := bT hb hb2
        have hown : w2.ownsRow w.heap.size 50 2 (.slice A hl.length c) hl.length (kcells hl) := own_kept HOWN.out hb2
        have HSTEP : Hid (Tr.hst true Tr.vFirst m t (k + 1) = (hl.eraseIdx p ++ [(x, y)], nn + 1)) := by
          have h := step_hit (mv := true) hst.out e1.out hin
          rw [← HPE.out] at h
          exact h
        have hD := l9Drop_any A c hl p w2 (ks_own hown) (by omega) hlc (by omega) (by omega)
        rw [Int.toNat_natCast] at hD
        have hel : (hl.eraseIdx p).length = hl.length - 1 := List.length_eraseIdx_of_lt (by omega)
        have HD := Lib.hid hD
        have HEL := Lib.hid hel
        clear hown hD hel
        go_wp2_with fail
        refine HD.out.mono ?_
        rintro e w3 ⟨v3, rfl, hown3, hb3'⟩
        have hb3 := bT hbw2 hb3'
        have hown3b : (w3).ownsRow w.heap.size 50 2 _ (hl.length - 1) (kcells (hl.eraseIdx p)) := own_mono hown3 (by first | exact Nat.le_refl _ | exact hbw2.size)
        have q0 : (w3).cell? ⟨b, o + k * 2, none⟩ = some (.int .i64 x) := ((bT hb2 hb3').cell (p := ⟨b, o + k * 2, none⟩) (Nat.lt_of_lt_of_le hbb hsz)).trans c1
        have q1 : (w3).cell? ⟨b, o + k * 2 + 1, none⟩ = some (.int .i64 y) := ((bT hb2 hb3').cell (p := ⟨b, o + k * 2 + 1, none⟩) (Nat.lt_of_lt_of_le hbb hsz)).trans c2
        obtain ⟨v4, w4, hrun, hown4, hg4, _⟩ := run_append_key w.heap.size (w3) _ (hl.length - 1) _ x y hown3b HEL.out (by omega) hb3.size
        have hb4 := bG (bA hb3 (o := .cells #[.int .i64 x, .int .i64 y] 50)) hg4 (own_block hown3b)
        rw [show (hl.length - 1) + 1 = ((hl.eraseIdx p) ++ [(x, y)]).length by have h9 := HEL.out; simp only [List.length_append, List.length_cons, List.length_nil]; try omega] at hown4
        have HOW4 := Lib.hid hown4
        clear hown3 hown3b hown4 hg4
        go_wp2_with (at_builtin; refine wpList_append_run _ rfl (.tmp 39) (.tmp 44) 23 rfl _ _ _ _ rfl rfl hrun ?_)
        go_roundw
        case rel => exact ⟨k + 1, (nn + 1), _, by omega, by go_num, by go_num, HSTEP, HOW4.out, hb4⟩
        case measure => simp [intOf]; omega
      · have hix : idx hl (x, y) = -1 := by unfold idx; rw [if_neg hin]
        have hI := l9In_any A c hl x y wr hrd'.out (by omega)
        rw [hix] at hI
        have HI := Lib.hid hI
        clear hI hix
        go_wp2_with fail
        refine HI.out.mono ?_
        rintro e w2 ⟨rfl, hb2⟩
        have hbw2 := bT hb hb2
        have hown : w2.ownsRow w.heap.size 50 2 (.slice A hl.length c) hl.length (kcells hl) := own_kept HOWN.out hb2
        by_cases hfull : hl.length = m
        · have hq : ((hl.length : Int) == (m : Int)) = true := by rw [beq_iff_eq]; omega
          have HSTEP : Hid (Tr.hst true Tr.vFirst m t (k + 1) = (hl.eraseIdx 0 ++ [(x, y)], nn)) := by
            have h := step_miss hst.out e1.out hin
            rw [if_pos hfull] at h
            exact h
          have hD := l9Drop_any A c hl 0 w2 (ks_own hown) (by omega) hlc (by omega) (by omega)
          have hel : (hl.eraseIdx 0).length = hl.length - 1 := List.length_eraseIdx_of_lt (by omega)
          have HD := Lib.hid hD
          have HEL := Lib.hid hel
          clear hown hfull hD hel
          go_wp2_with fail
          refine HD.out.mono ?_
          rintro e w3 ⟨v3, rfl, hown3, hb3'⟩
          have hb3 := bT hbw2 hb3'
          have hown3b : (w3).ownsRow w.heap.size 50 2 _ (hl.length - 1) (kcells (hl.eraseIdx 0)) := own_mono hown3 (by first | exact Nat.le_refl _ | exact hbw2.size)
          have q0 : (w3).cell? ⟨b, o + k * 2, none⟩ = some (.int .i64 x) := ((bT hb2 hb3').cell (p := ⟨b, o + k * 2, none⟩) (Nat.lt_of_lt_of_le hbb hsz)).trans c1
          have q1 : (w3).cell? ⟨b, o + k * 2 + 1, none⟩ = some (.int .i64 y) := ((bT hb2 hb3').cell (p := ⟨b, o + k * 2 + 1, none⟩) (Nat.lt_of_lt_of_le hbb hsz)).trans c2
          obtain ⟨v4, w4, hrun, hown4, hg4, _⟩ := run_append_key w.heap.size (w3) _ (hl.length - 1) _ x y hown3b HEL.out (by omega) hb3.size
          have hb4 := bG (bA hb3 (o := .cells #[.int .i64 x, .int .i64 y] 50)) hg4 (own_block hown3b)
          rw [show (hl.length - 1) + 1 = ((hl.eraseIdx 0) ++ [(x, y)]).length by have h9 := HEL.out; simp only [List.length_append, List.length_cons, List.length_nil]; try omega] at hown4
          have HOW4 := Lib.hid hown4
          clear hown3 hown3b hown4 hg4
          go_wp2_with (at_builtin; refine wpList_append_run _ rfl (.tmp 39) (.tmp 44) 23 rfl _ _ _ _ rfl rfl hrun ?_)
          go_roundw
          case rel => exact ⟨k + 1, nn, _, by omega, by go_num, by go_num, HSTEP, HOW4.out, hb4⟩
          case measure => simp [intOf]; omega
        · have hq : ((hl.length : Int) == (m : Int)) = false := by rw [beq_eq_false_iff_ne]; omega
          have HSTEP : Hid (Tr.hst true Tr.vFirst m t (k + 1) = (hl ++ [(x, y)], nn)) := by
            have h := step_miss hst.out e1.out hin
            rw [if_neg hfull] at h
            exact h
          obtain ⟨w3, rfl⟩ : ∃ w3, w2 = w3 := ⟨_, rfl⟩
          have hb3' : Below w2.heap.size w2 w2 := bR
          have hown3 := hown
          clear hown
          have hb3 := bT hbw2 hb3'
          have hown3b : (w2).ownsRow w.heap.size 50 2 _ hl.length (kcells hl) := own_mono hown3 (by first | exact Nat.le_refl _ | exact hbw2.size)
          have q0 : (w2).cell? ⟨b, o + k * 2, none⟩ = some (.int .i64 x) := ((bT hb2 hb3').cell (p := ⟨b, o + k * 2, none⟩) (Nat.lt_of_lt_of_le hbb hsz)).trans c1
          have q1 : (w2).cell? ⟨b, o + k * 2 + 1, none⟩ = some (.int .i64 y) := ((bT hb2 hb3').cell (p := ⟨b, o + k * 2 + 1, none⟩) (Nat.lt_of_lt_of_le hbb hsz)).trans c2
          obtain ⟨v4, w4, hrun, hown4, hg4, _⟩ := run_append_key w.heap.size (w2) _ hl.length _ x y hown3b (rfl : hl.length = hl.length) (by omega) hb3.size
          have hb4 := bG (bA hb3 (o := .cells #[.int .i64 x, .int .i64 y] 50)) hg4 (own_block hown3b)
          rw [show hl.length + 1 = (hl ++ [(x, y)]).length by have h9 := (rfl : hl.length = hl.length); simp only [List.length_append, List.length_cons, List.length_nil]; try omega] at hown4
          have HOW4 := Lib.hid hown4
          clear hown3 hown3b hown4 hg4
          go_wp2_with (at_builtin; refine wpList_append_run _ rfl (.tmp 39) (.tmp 44) 23 rfl _ _ _ _ rfl rfl hrun ?_)
          go_roundw
          case rel => exact ⟨k + 1, nn, _, by omega, by go_num, by go_num, HSTEP, HOW4.out, hb4⟩
          case measure => simp [intOf]; omega
    · have HE : Hid (((Tr.hst true Tr.vFirst m t t.length).2 : Int) = (nn : Int)) := by
        show _ = _
        rw [show t.length = k by omega, hst.out]
      go_wp2
      go_ret
      exact ⟨by rw [HE.out]; rfl, hb⟩
end Go.Proofs.Ytebodfciiikokaa
