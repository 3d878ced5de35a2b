import Derived.Test.YtbegdjemnclfaaaWork
import Derived.Test.YtbegdjemnclfaaaNext
namespace Go.Proofs.Ytbegdjemnclfaaa
open Go.RowKit

theorem drop_pred {l : List Key} {p : Nat} {x : Key} (e : l[p]? = some x) : l.drop p = x :: l.drop (p + 1) := by
  obtain ⟨h, rfl⟩ := List.getElem?_eq_some_iff.1 e
  exact List.drop_eq_getElem_cons h
theorem take_at {l : List Key} {k p : Nat} {x : Key} (e : l[p]? = some x) (h : p < k) : (l.take k)[p]? = some x := by
  rw [List.getElem?_take, if_pos h]; exact e
/-- the different keys that were met on the way back -/
def Met (P sl : List Key) : Prop := sl.length = Tr.nd P ∧ ∀ x, x ∈ sl ↔ x ∈ P
theorem met_nil {P : List Key} (h : P = []) : Met P [] := by subst h; exact ⟨rfl, fun _ => Iff.rfl⟩
theorem met_in {P sl : List Key} {x : Key} (h : Met P sl) (hx : x ∈ sl) : Met (x :: P) sl := by
  refine ⟨by rw [Tr.nd_cons, if_pos ((h.2 x).1 hx)]; exact h.1, fun y => ?_⟩
  rw [List.mem_cons, ← h.2 y]
  exact ⟨.inr, fun h => h.elim (fun e => e ▸ hx) id⟩
theorem met_out {P sl : List Key} {x : Key} (h : Met P sl) (hx : x ∉ sl) : Met (x :: P) (sl ++ [x]) := by
  refine ⟨by rw [Tr.nd_cons, if_neg (fun h' => hx ((h.2 x).2 h')), List.length_append, h.1]; rfl, fun y => ?_⟩
  rw [List.mem_cons, List.mem_append, List.mem_singleton, h.2 y, or_comm]

set_option maxRecDepth 1000000 in
set_option maxHeartbeats 2000000 in
theorem sWorkingSets_yes (T : Option Addr) (tc : Nat) (t : List Key) (n : Int) (w : World) (ht : Ks w.heap.size w T t) (hv : wval t n = true) :
    Calls Try.prog 14 #[.slice T t.length tc, .int .i64 n] w fun r w' => ∃ A c, r = .returned (.tuple #[.slice A (wsv t n).length c, .bool (wval t n)]) ∧ (wsv t n).length ≤ c ∧ Is w'.heap.size w' A (wsv t n) ∧ Below w.heap.size w w' := by
  obtain ⟨h1, hall, h40, hn1', hn40⟩ := wval_parts hv
  have K := l9Trace_any T tc t _ (ht.alloc (.cells #[] 3)) (by omega)
  have HV : Hid (wsv t n = wsl t n) := by show _ = _; unfold wsv; rw [if_pos hv]
  have HW := Lib.hid hv
  rw [h1] at K
  have HK := Lib.hid K
  have HT := Lib.hid ht
  clear K ht hv h1 hall
  go_enter Try.func14, Try.ntmps14
  go_wp2_with fail
  refine HK.out.mono ?_
  rintro e w1 ⟨rfl, hb1'⟩
  have hb1 := bT (bA bR) hb1'
  have hO : w1.ownsRow w.heap.size 3 1 (.slice (some ⟨w.heap.size, 0, none⟩) 0 0) 0 [] := own_kept (World.ownsRow_made w #[] 0 (Nat.le_refl _) (by simp [maxLen]) rfl) hb1'
  have HO := Lib.hid hO
  clear hO hb1'
  go_wp2
  go_loopw [6, 7] (fun v u wr => ∃ (k : Nat), k ≤ t.length ∧ u = .int .i64 k ∧ wr.ownsRow w.heap.size 3 1 v k (icells ((wsl t n).take k)) ∧ Below w.heap.size w wr) (fun _ u _ => t.length - (intOf u).toNat)
  case atStart => exact ⟨0, by omega, rfl, HO.out, hb1⟩
  case round =>
    obtain ⟨k, hk, rfl, hown, hb⟩ := hrel
    by_cases hlt : k < t.length
    · obtain ⟨w2, rfl⟩ : ∃ w2, w2 = wr := ⟨_, rfl⟩
      have HOWN := Lib.hid hown
      clear hown
      go_wp2
      go_loopw [8, 9] (fun sv ju wi => ∃ (r : Nat) (J : Int) (sl : List Key), r ≤ k + 1 ∧ k + 1 - n.toNat ≤ r ∧ ju = .int .i64 J ∧ J = (r : Int) - 1 ∧ Hid (Met ((t.take (k + 1)).drop r) sl) ∧ wi.ownsRow w2.heap.size 34 2 sv sl.length (kcells sl) ∧ Below w2.heap.size w2 wi) (fun _ u _ => (intOf u + 1).toNat)
      case atStart => exact ⟨k + 1, _, [], by omega, by omega, rfl, by omega, met_nil (by rw [List.drop_eq_nil_iff]; simp; omega), World.ownsRow_made w2 #[] 0 (Nat.le_refl _) (by simp [maxLen]) rfl, bA bR⟩
      case round =>
        obtain ⟨r, J, sl, hr1, hr2, rfl, hJ, hmet, hseen, hbi⟩ := hrel
        obtain ⟨A, c, rfl, hlc, hcm, hrd⟩ := own_rd hseen
        have hsl : sl.length ≤ k + 1 := by
          have := hmet.out.1
          have h2 := Tr.nd_le ((t.take (k + 1)).drop r)
          simp at h2
          omega
        by_cases hgo : 1 ≤ r ∧ k + 1 - n.toNat < r
        · obtain ⟨p, rfl⟩ : ∃ p, r = p + 1 := ⟨r - 1, by omega⟩
          obtain rfl : J = (p : Int) := by omega
          have hgt : (k : Int) - n < (p : Int) := by omega
          clear hJ
          obtain ⟨b, o, x, y, rfl, hbb, c1, c2, e1⟩ := (HT.out.below (bT hb hbi)).key2 (k := p) (by omega)
          have hI := l9In_any A c sl x y wr hrd (by omega)
          have HD := Lib.hid (drop_pred (take_at e1 (show p < k + 1 by omega)))
          have HSEEN := Lib.hid hseen
          by_cases hin : (x, y) ∈ sl
          · have hp := List.idxOf_lt_length_of_mem hin
            have hix : idx sl (x, y) = (sl.idxOf (x, y) : Int) := by unfold idx; rw [if_pos hin]
            rw [hix] at hI
            have HM : Hid (Met ((t.take (k + 1)).drop p) sl) := by show Met _ _; rw [HD.out]; exact met_in hmet.out hin
            generalize sl.idxOf (x, y) = ix at hp hI
            have HI := Lib.hid hI
            clear hI hix hseen hrd e1
            go_wp2_with fail
            refine HI.out.mono ?_
            rintro e w3 ⟨rfl, hb3⟩
            have hs3 := own_kept HSEEN.out hb3
            have HS3 := Lib.hid hs3
            clear hs3
            go_wp2
            go_roundw
            case rel => exact ⟨p, _, sl, by omega, by omega, rfl, by omega, HM, HS3.out, bT hbi hb3⟩
            case measure => simp [intOf]
          · have hix : idx sl (x, y) = -1 := by unfold idx; rw [if_neg hin]
            rw [hix] at hI
            have HM : Hid (Met ((t.take (k + 1)).drop p) (sl ++ [(x, y)])) := by show Met _ _; rw [HD.out]; exact met_out hmet.out hin
            have HI := Lib.hid hI
            clear hI hix hseen hrd e1
            go_wp2_with fail
            refine HI.out.mono ?_
            rintro e w3 ⟨rfl, hb3⟩
            have hs3 := own_kept HSEEN.out hb3
            have hb3' := bT hbi hb3
            have q0 : w3.cell? ⟨b, o + p * 2, none⟩ = some (.int .i64 x) := (hb3.cell (p := ⟨b, o + p * 2, none⟩) (by have := (bT hb hbi).size; simp; omega)).trans c1
            have q1 : w3.cell? ⟨b, o + p * 2 + 1, none⟩ = some (.int .i64 y) := (hb3.cell (p := ⟨b, o + p * 2 + 1, none⟩) (by have := (bT hb hbi).size; simp; omega)).trans c2
            obtain ⟨v4, w4, hrun, hown4, hg4, _⟩ := run_append_key w2.heap.size w3 _ sl.length _ x y hs3 rfl (by omega) hb3'.size
            have hb4 := bG (bA hb3' (o := .cells #[.int .i64 x, .int .i64 y] 34)) hg4 (own_block hs3)
            rw [show sl.length + 1 = (sl ++ [(x, y)]).length by simp] at hown4
            have HOW4 := Lib.hid hown4
            clear hs3 hown4 hg4
            go_wp2_with (at_builtin; refine wpList_append_run _ rfl (.tmp 49) (.tmp 54) 23 rfl _ _ _ _ rfl rfl hrun ?_)
            go_roundw
            case rel => exact ⟨p, _, _, by omega, by omega, rfl, by omega, HM, HOW4.out, hb4⟩
            case measure => simp [intOf]
        · have hre : r = k + 1 - n.toNat := by omega
          have hwl : sl.length = Tr.wset t n.toNat k := by rw [hmet.out.1, hre]; rfl
          have hownk := own_kept HOWN.out hbi
          have hbw := bT hb hbi
          obtain ⟨v4, w4, hrun, hown4, hg4, _⟩ := run_append_int w.heap.size wr _ k _ (sl.length : Int) hownk (by rw [List.length_take, wsl_length]; omega) (by omega) hbw.size
          have hb4 := bG (bA hbw (o := .cells #[.int .i64 (sl.length : Int)] 3)) hg4 (own_block hownk)
          have HTK := wsl_take t n k hlt
          rw [← hwl] at HTK
          rw [← HTK] at hown4
          have HOW4 := Lib.hid hown4
          clear hown4 hownk hg4 HTK hwl hmet hseen hrd
          have hstop : J < 0 ∨ J ≤ (k : Int) - n := by omega
          clear hJ hre hgo hr1 hr2 hsl hcm
          by_cases hj0 : J < 0
          · have hq0 : ¬ 0 ≤ J := by omega
            clear hstop hj0
            go_wp2_with (at_builtin; refine wpList_append_run _ rfl (.tmp 56) (.tmp 59) 26 rfl _ _ _ _ rfl rfl hrun ?_)
            go_roundw
            case rel => exact ⟨k + 1, by omega, by go_num, HOW4.out, hb4⟩
            case measure => simp [intOf]; omega
          · have hq0 : 0 ≤ J := by omega
            have hq1 : ¬ (k : Int) - n < J := by omega
            clear hstop hj0
            go_wp2_with (at_builtin; refine wpList_append_run _ rfl (.tmp 56) (.tmp 59) 26 rfl _ _ _ _ rfl rfl hrun ?_)
            go_roundw
            case rel => exact ⟨k + 1, by omega, by go_num, HOW4.out, hb4⟩
            case measure => simp [intOf]; omega
    · have hkl : k = t.length := by omega
      have hcl := wsl_length t n
      obtain ⟨A, c, rfl, hlc, hcm, hrd⟩ := own_rd hown
      rw [List.take_of_length_le (by omega)] at hrd
      have hrd' : Is wr.heap.size wr A (wsl t n) := by unfold Is; rw [hcl, ← hkl]; exact hrd
      clear hown hrd
      go_wp2
      go_ret2
      rw [HV.out]
      exact ⟨A, c, by rw [hcl, HW.out, hkl]; rfl, by omega, hrd', hb⟩
theorem sWorkingSets_any (T : Option Addr) (tc : Nat) (t : List Key) (n : Int) (w : World) (ht : Ks w.heap.size w T t) (hl : t.length ≤ 9223372036854775807) :
    Calls Try.prog 14 #[.slice T t.length tc, .int .i64 n] w fun r w' => ∃ A c, r = .returned (.tuple #[.slice A (wsv t n).length c, .bool (wval t n)]) ∧ (wsv t n).length ≤ c ∧ Is w'.heap.size w' A (wsv t n) ∧ Below w.heap.size w w' := by
  by_cases hv : wval t n = true
  · exact sWorkingSets_yes T tc t n w ht hv
  · have hv : wval t n = false := by simpa using hv
    have K := l9Trace_any T tc t _ (ht.alloc (.cells #[] 3)) hl
    have HV : Hid (wsv t n = []) := by show _ = _; unfold wsv; rw [hv]; rfl
    have HW := Lib.hid hv
    by_cases h1 : tval t = true
    · by_cases h2 : n < 1
      · clear hv
        rw [h1] at K
        have HK := Lib.hid K
        clear K ht
        go_enter Try.func14, Try.ntmps14
        go_wp2_with fail
        refine HK.out.mono ?_
        rintro e w1 ⟨rfl, hb1⟩
        go_wp2
        go_ret2
        rw [HV.out]
        exact ⟨_, 0, by rw [HW.out]; rfl, Nat.le_refl _, Rd.nil_, bT (bA bR) hb1⟩
      · have h3 : 40 < n := by
          unfold wval at hv
          rw [h1, Bool.true_and, Bool.and_eq_false_iff, decide_eq_false_iff_not, decide_eq_false_iff_not] at hv
          omega
        clear hv
        rw [h1] at K
        have HK := Lib.hid K
        clear K ht
        go_enter Try.func14, Try.ntmps14
        go_wp2_with fail
        refine HK.out.mono ?_
        rintro e w1 ⟨rfl, hb1⟩
        go_wp2
        go_ret2
        rw [HV.out]
        exact ⟨_, 0, by rw [HW.out]; rfl, Nat.le_refl _, Rd.nil_, bT (bA bR) hb1⟩
    · have h1 : tval t = false := by simpa using h1
      clear hv
      rw [h1] at K
      have HK := Lib.hid K
      clear K ht
      go_enter Try.func14, Try.ntmps14
      go_wp2_with fail
      refine HK.out.mono ?_
      rintro e w1 ⟨rfl, hb1⟩
      go_wp2
      go_ret2
      rw [HV.out]
      exact ⟨_, 0, by rw [HW.out]; rfl, Nat.le_refl _, Rd.nil_, bT (bA bR) hb1⟩
end Go.Proofs.Ytbegdjemnclfaaa
