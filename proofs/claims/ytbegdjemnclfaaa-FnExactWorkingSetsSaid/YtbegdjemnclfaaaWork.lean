import Derived.Test.YtbegdjemnclfaaaDiff
import Derived.Test.YtbegdjemnclfaaaCurve2
namespace Go.Proofs.Ytbegdjemnclfaaa
open Go.RowKit

/-- the windows of a trace -/
def wsl (t : List Key) (n : Int) : List Int := (List.range t.length).map fun i => ((Tr.wset t n.toNat i : Nat) : Int)
def wval (t : List Key) (n : Int) : Bool := tval t && decide (1 ≤ n) && decide (n ≤ 40)
def wsv (t : List Key) (n : Int) : List Int := if wval t n = true then wsl t n else []
theorem wsl_get (t : List Key) (n : Int) (k : Nat) (hk : k < t.length) : (wsl t n)[k]? = some ((Tr.wset t n.toNat k : Nat) : Int) := by simp [wsl, hk]
theorem wsl_length (t : List Key) (n : Int) : (wsl t n).length = t.length := by simp [wsl]
theorem wsl_take (t : List Key) (n : Int) (k : Nat) (hk : k < t.length) : (wsl t n).take (k + 1) = (wsl t n).take k ++ [((Tr.wset t n.toNat k : Nat) : Int)] := by
  rw [List.take_add_one, wsl_get t n k hk]; rfl
theorem wval_parts {t : List Key} {n : Int} (h : wval t n = true) : tval t = true ∧ t.all kval = true ∧ t.length ≤ 40 ∧ 1 ≤ n ∧ n ≤ 40 := by
  unfold wval at h
  rw [Bool.and_eq_true, Bool.and_eq_true, decide_eq_true_eq, decide_eq_true_eq] at h
  obtain ⟨⟨h1, h2⟩, h3⟩ := h
  have h4 := h1
  unfold tval at h4
  rw [Bool.and_eq_true, decide_eq_true_eq] at h4
  exact ⟨h1, h4.2, h4.1, h2, h3⟩

theorem wsv_le (t : List Key) (n : Int) : (wsv t n).length ≤ 40 := by
  unfold wsv
  split
  · rename_i h
    rw [wsl_length]
    exact (wval_parts h).2.2.1
  · simp
set_option maxHeartbeats 1000000 in
theorem WorkingSets_mine (T : Option Addr) (tc : Nat) (t : List Key) (n : Int) (w : World) (ht : Ks w.heap.size w T t) (htc : t.length ≤ tc) (hl : t.length ≤ 9223372036854775807) :
    Calls Try.prog 13 #[.slice T t.length tc, .int .i64 n] w fun r w' => ∃ A c, r = .returned (.tuple #[.slice A (wsv t n).length c, .bool (wval t n)]) ∧ (wsv t n).length ≤ c ∧ Mine w.heap.size w' A (wsv t n) ∧ Below w.heap.size w w' := by
  have K := traceValid_any T tc t w ht hl
  by_cases hv : wval t n = true
  · obtain ⟨h1, hall, h40, hn1', hn40⟩ := wval_parts hv
    have HV : Hid (wsv t n = wsl t n) := by show _ = _; unfold wsv; rw [if_pos hv]
    have HW := Lib.hid hv
    rw [h1] at K
    have HK := Lib.hid K
    have HT := Lib.hid ht
    have HALL := Lib.hid hall
    obtain ⟨C0, hC0, hmk⟩ := make_any t.length (by omega)
    clear K ht hv h1 hall
    go_enter Try.func13, Try.ntmps13
    go_wp2_with fail
    refine HK.out.mono ?_
    rintro e w1 ⟨rfl, hb1⟩
    go_wp2
    go_loopw [24] (fun u wr => ∃ (k : Nat) (cs : Array Value), k ≤ t.length ∧ u = .int .i64 k ∧ cs.size = t.length ∧ Hid (∀ j, j < k → cs[j]? = some (.int .i64 ((Tr.wset t n.toNat j : Nat) : Int))) ∧ Own wr w1.heap.size 3 cs ∧ Below w1.heap.size w1 wr) (fun u _ => t.length - (intOf u).toNat)
    case atStart => exact ⟨0, _, by omega, rfl, hC0, (fun j hj => absurd hj (by omega)), Own.new_ _ _ _, bA bR⟩
    case round =>
      obtain ⟨k, cs, hk, rfl, hcs, hc, hown, hb⟩ := hrel
      by_cases hlt : k < t.length
      · by_cases hm : n ≤ k
        · have hsl := fun W => ks_lohi W T t.length tc ((k : Int) + 1 - n) ((k : Int) + 1) (by omega) (by omega) (by omega)
          have hhi : ((k : Int) + 1).toNat = k + 1 := by omega
          have hlo : (((k : Int) + 1 - n) : Int).toNat = k + 1 - n.toNat := by omega
          rw [hhi, hlo] at hsl
          have hcut := (HT.out.now (Nat.le_refl _) (bT hb1 hb)).kcut (c := tc) (lo := k + 1 - n.toNat) (hi := k + 1) (by omega) (by omega) htc
          have hlen : ((t.take (k + 1)).drop (k + 1 - n.toNat)).length = k + 1 - (k + 1 - n.toNat) := by simp; omega
          have K1 := different_any (cutA T tc (k + 1 - n.toNat) 2) (tc - (k + 1 - n.toNat)) _ wr hcut (by omega) (List.all_eq_true.2 fun x hx => List.all_eq_true.1 HALL.out x (List.mem_of_mem_take (List.mem_of_mem_drop hx)))
          rw [hlen] at K1
          replace K1 : Calls Try.prog 40 _ _ fun r w' => r = .returned (.int .i64 ((Tr.wset t n.toNat k : Nat) : Int)) ∧ Below wr.heap.size wr w' := K1
          have H1 := Lib.hid K1
          have HOWN := Lib.hid hown
          have HCS := Lib.hid hcs
          clear K1 hown hcut hlen hhi hlo
          generalize k + 1 - n.toNat = q at *
          go_wp2_with fail
          refine H1.out.mono ?_
          rintro e w2 ⟨rfl, hb2⟩
          have hown := HOWN.out.below hb2
          have hcc := hown.cell k
          rw [Array.getElem?_eq_getElem (by omega)] at hcc
          have hff := hown.free k
          go_wp2
          go_roundw
          case rel =>
            refine ⟨k + 1, _, by omega, by go_num, ?_, ?_, hown.set_ k _, bS (bT hb hb2) (Nat.le_refl _)⟩
            · rw [Array.size_setIfInBounds]; exact HCS.out
            · intro j hj
              rw [Array.getElem?_setIfInBounds]
              by_cases hjk : k = j
              · subst hjk
                rw [if_pos rfl, if_pos (by have := HCS.out; omega)]
              · rw [if_neg hjk]
                exact hc.out j (by omega)
          case measure => simp [intOf]; omega
        · have hsl := fun W => ks_lohi W T t.length tc 0 ((k : Int) + 1) (by omega) (by omega) (by omega)
          have hhi : ((k : Int) + 1).toNat = k + 1 := by omega
          have hlo : (0 : Int).toNat = k + 1 - n.toNat := by omega
          rw [hhi, hlo] at hsl
          have hcut := (HT.out.now (Nat.le_refl _) (bT hb1 hb)).kcut (c := tc) (lo := k + 1 - n.toNat) (hi := k + 1) (by omega) (by omega) htc
          have hlen : ((t.take (k + 1)).drop (k + 1 - n.toNat)).length = k + 1 - (k + 1 - n.toNat) := by simp; omega
          have K1 := different_any (cutA T tc (k + 1 - n.toNat) 2) (tc - (k + 1 - n.toNat)) _ wr hcut (by omega) (List.all_eq_true.2 fun x hx => List.all_eq_true.1 HALL.out x (List.mem_of_mem_take (List.mem_of_mem_drop hx)))
          rw [hlen] at K1
          replace K1 : Calls Try.prog 40 _ _ fun r w' => r = .returned (.int .i64 ((Tr.wset t n.toNat k : Nat) : Int)) ∧ Below wr.heap.size wr w' := K1
          have H1 := Lib.hid K1
          have HOWN := Lib.hid hown
          have HCS := Lib.hid hcs
          clear K1 hown hcut hlen hhi hlo
          generalize k + 1 - n.toNat = q at *
          go_wp2_with fail
          refine H1.out.mono ?_
          rintro e w2 ⟨rfl, hb2⟩
          have hown := HOWN.out.below hb2
          have hcc := hown.cell k
          rw [Array.getElem?_eq_getElem (by omega)] at hcc
          have hff := hown.free k
          go_wp2
          go_roundw
          case rel =>
            refine ⟨k + 1, _, by omega, by go_num, ?_, ?_, hown.set_ k _, bS (bT hb hb2) (Nat.le_refl _)⟩
            · rw [Array.size_setIfInBounds]; exact HCS.out
            · intro j hj
              rw [Array.getElem?_setIfInBounds]
              by_cases hjk : k = j
              · subst hjk
                rw [if_pos rfl, if_pos (by have := HCS.out; omega)]
              · rw [if_neg hjk]
                exact hc.out j (by omega)
          case measure => simp [intOf]; omega
      · have hkl : k = t.length := by omega
        have hcl := wsl_length t n
        have his : Mine w.heap.size wr (some ⟨w1.heap.size, 0, none⟩) (wsl t n) := own_mine hown hb1.size (by omega) (fun j hj => by
          rw [hcl] at hj
          rw [hc.out j (by omega), icells, List.getElem?_map, wsl_get t n j hj]; rfl)
        go_wp2
        go_ret2
        rw [HV.out]
        exact ⟨some ⟨w1.heap.size, 0, none⟩, t.length, by rw [hcl, HW.out]; rfl, by omega, his, bT hb1 hb⟩
  · have hv : wval t n = false := by simpa using hv
    have HV : Hid (wsv t n = []) := by show _ = _; unfold wsv; rw [hv]; rfl
    have HW := Lib.hid hv
    have HK := Lib.hid K
    by_cases h1 : tval t = true
    · by_cases h2 : n < 1
      · clear K ht hv
        go_enter Try.func13, Try.ntmps13
        go_wp2_with fail
        refine HK.out.mono ?_
        rintro e w1 ⟨rfl, hb1⟩
        rw [h1]
        go_wp2
        go_ret2
        rw [HV.out]
        exact ⟨none, 0, by rw [HW.out]; rfl, Nat.le_refl _, Mine.nil_, hb1⟩
      · have h3 : 40 < n := by
          unfold wval at hv
          rw [h1, Bool.true_and, Bool.and_eq_false_iff, decide_eq_false_iff_not, decide_eq_false_iff_not] at hv
          omega
        clear K ht hv
        go_enter Try.func13, Try.ntmps13
        go_wp2_with fail
        refine HK.out.mono ?_
        rintro e w1 ⟨rfl, hb1⟩
        rw [h1]
        go_wp2
        go_ret2
        rw [HV.out]
        exact ⟨none, 0, by rw [HW.out]; rfl, Nat.le_refl _, Mine.nil_, hb1⟩
    · have h1 : tval t = false := by simpa using h1
      clear K ht hv
      go_enter Try.func13, Try.ntmps13
      go_wp2_with fail
      refine HK.out.mono ?_
      rintro e w1 ⟨rfl, hb1⟩
      rw [h1]
      go_wp2
      go_ret2
      rw [HV.out]
      exact ⟨none, 0, by rw [HW.out]; rfl, Nat.le_refl _, Mine.nil_, hb1⟩
theorem WorkingSets_any (T : Option Addr) (tc : Nat) (t : List Key) (n : Int) (w : World) (ht : Ks w.heap.size w T t) (htc : t.length ≤ tc) (hl : t.length ≤ 9223372036854775807) (_hn1 : -100000 ≤ n) (_hn2 : n ≤ 100000) :
    Calls Try.prog 13 #[.slice T t.length tc, .int .i64 n] w fun r w' => ∃ A c, r = .returned (.tuple #[.slice A (wsv t n).length c, .bool (wval t n)]) ∧ (wsv t n).length ≤ c ∧ Is w'.heap.size w' A (wsv t n) ∧ Below w.heap.size w w' :=
  (WorkingSets_mine T tc t n w ht htc hl).mono fun _ _ ⟨A, c, h1, h2, h3, h4⟩ => ⟨A, c, h1, h2, h3.is, h4⟩
end Go.Proofs.Ytbegdjemnclfaaa
