import Derived.Test.YtebodfciiikokaaHits
namespace Go.Proofs.Ytebodfciiikokaa
open Go.RowKit

set_option maxHeartbeats 1000000 in
theorem hits_fifo (T : Option Addr) (tc : Nat) (t : List Key) (m : Nat) (w : World)  (ht : Ks w.heap.size w T t) (htl : t.length ≤ 1048576) (hm1 : 1 ≤ m) (hm8 : m ≤ 8) :
    Calls Try.prog 46 #[.slice T t.length tc, .int .i64 m, .func (.func 47) #[] #[], .func (.func 48) #[] #[]] w
      fun r w' => r = .returned (.int .i64 (Tr.hst false Tr.vFirst m t t.length).2) ∧ Below w.heap.size w w' := by
  go_enter Try.func46, Try.ntmps46
  go_wp2
  go_loopw [9, 10, 16] (fun held n u wr => ∃ (k nn : Nat) (hl : List Key), k ≤ t.length ∧ u = .int .i64 k ∧ n = .int .i64 nn ∧ Hid (Tr.hst false Tr.vFirst m t k = (hl, nn)) ∧ wr.ownsRow w.heap.size 50 2 held hl.length (kcells hl) ∧ Below w.heap.size w wr) (fun _ _ u _ => t.length - (intOf u).toNat)
  case atStart => exact ⟨0, 0, [], by omega, rfl, rfl, rfl, World.ownsRow_nil _ _ _ _, bR⟩
  case round =>
    obtain ⟨k, nn, hl, hk, rfl, rfl, hst, hown, hb⟩ := hrel
    obtain ⟨hlen, hnk⟩ := hst_len' Tr.picks_first hm1 hst.out
    by_cases hlt : k < t.length
    · obtain ⟨b, o, x, y, rfl, hbb, c1, c2, e1'⟩ := (ht.below hb).key2 hlt
      have e1 := Lib.hid e1'
      obtain ⟨A, c, rfl, hlc, hcm, hrd⟩ := own_rd hown
      have hsz := hb.size
      have hrd' := Lib.hid (hrd.alloc (.cells #[.int .i64 x, .int .i64 y] 50))
      have HOWN := Lib.hid hown
      have HT := Lib.hid ht
      clear e1' hrd hown ht
      by_cases hin : (x, y) ∈ hl
      · have hp := List.idxOf_lt_length_of_mem hin
        have hI := index_any A c hl x y _ hrd'.out (by omega)
        have hix : idx hl (x, y) = (hl.idxOf (x, y) : Int) := by unfold idx; rw [if_pos hin]
        rw [hix] at hI
        have hpe := eraseIdx_idx hl (x, y)
        have hpg : hl[hl.idxOf (x, y)]? = some (x, y) := by rw [List.getElem?_eq_getElem hp]; simp
        generalize hl.idxOf (x, y) = p at hp hI hpe hpg
        have HI := Lib.hid hI
        have HPE := Lib.hid hpe
        have HPG := Lib.hid hpg
        clear hI hix hpe hpg
        go_wp2_with fail
        refine HI.out.mono ?_
        rintro e w2 ⟨rfl, hb2⟩
        have hbw2 := bT (bA hb (o := .cells #[.int .i64 x, .int .i64 y] 50)) hb2
        have hown : w2.ownsRow w.heap.size 50 2 (.slice A hl.length c) hl.length (kcells hl) := own_kept (HOWN.out.alloc _) hb2
        have HSTEP : Hid (Tr.hst false Tr.vFirst m t (k + 1) = (hl, nn + 1)) := step_hit hst.out e1.out hin
        have HOW2 := Lib.hid hown
        clear hown
        go_wp2_with (go_at_call 48; refine (stay_any _ _ _).mono ?_; rintro e w' ⟨rfl, rfl⟩)
        go_roundw
        case rel => exact ⟨k + 1, nn + 1, hl, by omega, by go_num, by go_num, HSTEP, HOW2.out, hbw2⟩
        case measure => simp [intOf]; omega
      · have hix : idx hl (x, y) = -1 := by unfold idx; rw [if_neg hin]
        have hI := index_any A c hl x y _ hrd'.out (by omega)
        rw [hix] at hI
        have HI := Lib.hid hI
        clear hI hix
        go_wp2_with fail
        refine HI.out.mono ?_
        rintro e w2 ⟨rfl, hb2⟩
        have hbw2 := bT (bA hb (o := .cells #[.int .i64 x, .int .i64 y] 50)) hb2
        have hbox := (Own.new_ wr 50 #[.int .i64 x, .int .i64 y]).below hb2
        have hown : w2.ownsRow w.heap.size 50 2 (.slice A hl.length c) hl.length (kcells hl) := own_kept (HOWN.out.alloc _) hb2
        by_cases hfull : hl.length = m
        · have hq : ((hl.length : Int) == (m : Int)) = true := by rw [beq_iff_eq]; omega
          have HSTEP : Hid (Tr.hst false Tr.vFirst m t (k + 1) = (hl.eraseIdx (Tr.vFirst hl k) ++ [(x, y)], nn)) := by
            have h := step_miss hst.out e1.out hin
            rw [if_pos hfull] at h
            exact h
          obtain ⟨g, c', hA, hgb, hgl⟩ := World.ownsRow.form HOWN.out (by omega)
          injection hA with hA _ hc'
          subst hA
          subst hc'
          have HFULL := Lib.hid hfull
          clear hfull
          go_wp2_with (go_at_call 47; refine (oldest_any _ _ _).mono ?_; rintro e w' ⟨rfl, rfl⟩)
          have hpk := (show Tr.vFirst hl k < hl.length by have := HFULL.out; unfold Tr.vFirst; omega)
          have HPK := Lib.hid hpk
          have HBOX := Lib.hid hbox
          have hdel : Calls Try.prog 60 #[.slice (some ⟨g, 0, none⟩) hl.length c, .int .i64 0, .int .i64 1] w2 _ := delete_any w.heap.size g c hl 0 w2 hown (by omega) (by have := HFULL.out; omega)
          have HDEL := Lib.hid hdel
          clear hown hbox hpk hdel
          go_wp2_with fail
          refine HDEL.out.mono ?_
          rintro e w3 ⟨v3, rfl, rfl, hown3, hg3⟩
          try rw [Int.toNat_natCast] at hown3
          skip
          replace hown3 : w3.ownsRow w.heap.size 50 2 (.slice (some ⟨g, 0, none⟩) (hl.length - 1) c) (hl.length - 1) (kcells (hl.eraseIdx (Tr.vFirst hl k))) := hown3
          have q0 := hg3.cell (HBOX.out.cell_ 0 (v := .int .i64 x) rfl) (by simp; omega)
          have q1 := hg3.cell (HBOX.out.cell_ 1 (v := .int .i64 y) rfl) (by simp; omega)
          have hb3 := bG hbw2 hg3 (by intro q hq; injection hq with hq; omega)
          have hel : (hl.eraseIdx (Tr.vFirst hl k)).length = hl.length - 1 := List.length_eraseIdx_of_lt HPK.out
          obtain ⟨v4, w4, hrun, hown4, hg4, _⟩ := run_append_key w.heap.size w3 _ (hl.length - 1) _ x y hown3 hel (by omega) hb3.size
          have hb4 := bG (bA hb3 (o := .cells #[.int .i64 x, .int .i64 y] 50)) hg4 (own_block hown3)
          rw [show hl.length - 1 + 1 = (hl.eraseIdx (Tr.vFirst hl k) ++ [(x, y)]).length by rw [List.length_append, hel]; rfl] at hown4
          have HOW4 := Lib.hid hown4
          clear hown3 hg3 hown4 hg4 hel
          go_wp2_with (at_builtin; refine wpList_append_run _ rfl (.tmp 47) (.tmp 49) 23 rfl _ _ _ _ rfl rfl hrun ?_)
          go_roundw
          case rel => exact ⟨k + 1, nn, _, by omega, by go_num, rfl, HSTEP, HOW4.out, hb4⟩
          case measure => simp [intOf]; omega
        · have hq : ((hl.length : Int) == (m : Int)) = false := by rw [beq_eq_false_iff_ne]; omega
          have HSTEP : Hid (Tr.hst false Tr.vFirst m t (k + 1) = (hl ++ [(x, y)], nn)) := by
            have h := step_miss hst.out e1.out hin
            rw [if_neg hfull] at h
            exact h
          have q0 := hbox.cell_ 0 (v := .int .i64 x) rfl
          have q1 := hbox.cell_ 1 (v := .int .i64 y) rfl
          obtain ⟨v4, w4, hrun, hown4, hg4, _⟩ := run_append_key w.heap.size w2 _ hl.length _ x y hown rfl (by omega) hbw2.size
          have hb4 := bG (bA hbw2 (o := .cells #[.int .i64 x, .int .i64 y] 50)) hg4 (own_block hown)
          rw [show hl.length + 1 = (hl ++ [(x, y)]).length by rw [List.length_append]; rfl] at hown4
          have HOW4 := Lib.hid hown4
          clear hown hown4 hg4 hbox
          go_wp2_with (at_builtin; refine wpList_append_run _ rfl (.tmp 47) (.tmp 49) 23 rfl _ _ _ _ rfl rfl hrun ?_)
          go_roundw
          case rel => exact ⟨k + 1, nn, _, by omega, by go_num, rfl, HSTEP, HOW4.out, hb4⟩
          case measure => simp [intOf]; omega
    · have HE : Hid (((Tr.hst false Tr.vFirst m t t.length).2 : Int) = (nn : Int)) := by
        show _ = _
        rw [show t.length = k by omega, hst.out]
      go_wp2
      go_ret
      exact ⟨by rw [HE.out]; rfl, hb⟩
end Go.Proofs.Ytebodfciiikokaa
