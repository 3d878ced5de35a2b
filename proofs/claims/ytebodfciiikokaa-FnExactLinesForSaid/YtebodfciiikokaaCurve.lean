import Derived.Test.YtebodfciiikokaaInts
import Derived.Test.YtebodfciiikokaaSpec2
namespace Go.Proofs.Ytebodfciiikokaa
open Go.RowKit

/-- the hits for each number of lines -/
def crv (t : List Key) : List Int := (List.range 8).map fun i => ((Tr.lru t (i + 1) : Nat) : Int)
def crvv (t : List Key) : List Int := if tval t = true then crv t else []
theorem crv_get (t : List Key) (k : Nat) (hk : k < 8) : (crv t)[k]? = some ((Tr.lru t (k + 1) : Nat) : Int) := by simp [crv, hk]
theorem crv_length (t : List Key) : (crv t).length = 8 := by simp [crv]

theorem make_ints (n : Nat) (hn : n ≤ 1048576) (w : World) : (Instr.makeSlice 28 (.int .i64 (n : Int)) (.int .i64 (n : Int))).run Try.prog w = .ok (.slice (some ⟨w.heap.size, 0, none⟩) n n) (w.alloc (.cells (madeCells #[.int .i64 0] n) 3)) := by
  obtain ⟨i0, hi0, hz0, hz1, hz2⟩ := info_parts int_info
  have hb : (i0.bytes : Int) * ((n : Nat) : Int) ≤ 281474976710656 := by rw [hz2]; omega
  have hr := run_make (P := Try.prog) w 28 3 i0 _ Try.underlying28 hi0 hz0 .i64 .i64 n n (by omega) (by omega) hb (by omega)
  simp only [Int.toNat_natCast, hz1, Nat.mul_one] at hr
  exact hr
theorem make_eight : ∃ cs : Array Value, cs.size = 8 ∧ ∀ w : World, (Instr.makeSlice 28 (.int .i64 8) (.int .i64 8)).run Try.prog w = .ok (.slice (some ⟨w.heap.size, 0, none⟩) 8 8) (w.alloc (.cells cs 3)) :=
  ⟨madeCells #[.int .i64 0] 8, by simp [madeCells], fun w => make_ints 8 (by omega) w⟩
theorem own_is {w : World} {g : Nat} {cs : Array Value} {l : List Int} (h : Own w g 3 cs) (hl : ∀ k, k < l.length → cs[k]? = (icells l)[k]?) : Is w.heap.size w (some ⟨g, 0, none⟩) l := by
  refine ⟨by simp [icells], fun _ => ⟨g, 0, rfl, h.lt, fun j u hu => ?_⟩⟩
  rw [Nat.zero_add, h.cell, hl j _, hu]
  obtain ⟨hj, _⟩ := List.getElem?_eq_some_iff.1 hu
  simpa [icells] using hj

set_option maxHeartbeats 1000000 in
theorem HitCurve_mine (T : Option Addr) (tc : Nat) (t : List Key) (w : World) (ht : Ks w.heap.size w T t) (hl : t.length ≤ 9223372036854775807) :
    Calls Try.prog 14 #[.slice T t.length tc] w fun r w' => ∃ A c, r = .returned (.tuple #[.slice A (crvv t).length c, .bool (tval t)]) ∧ (crvv t).length ≤ c ∧ Mine w.heap.size w' A (crvv t) ∧ Below w.heap.size w w' := by
  have K := traceValid_any T tc t w ht hl
  by_cases hv : tval t = true
  · have HV : Hid (crvv t = crv t) := by show _ = _; unfold crvv; rw [if_pos hv]
    have h40 : t.length ≤ 40 := by
      unfold tval at hv
      rw [Bool.and_eq_true, decide_eq_true_eq] at hv
      exact hv.1
    rw [hv] at K
    have HK := Lib.hid K
    have HT := Lib.hid ht
    obtain ⟨C0, hC0, hmk⟩ := make_eight
    clear K ht
    go_enter Try.func14, Try.ntmps14
    go_wp2_with fail
    refine HK.out.mono ?_
    rintro e w1 ⟨rfl, hb1⟩
    go_wp2
    go_loopw [12] (fun u wr => ∃ (k : Nat) (cs : Array Value), k ≤ 8 ∧ u = .int .i64 k ∧ cs.size = 8 ∧ Hid (∀ j, j < k → cs[j]? = some (.int .i64 ((Tr.lru t (j + 1) : Nat) : Int))) ∧ Own wr w1.heap.size 3 cs ∧ Below w1.heap.size w1 wr) (fun u _ => 8 - (intOf u).toNat)
    case atStart => exact ⟨0, _, by omega, rfl, hC0, (fun j hj => absurd hj (by omega)), Own.new_ _ _ _, bA bR⟩
    case round =>
      obtain ⟨k, cs, hk, rfl, hcs, hc, hown, hb⟩ := hrel
      by_cases hlt : k < 8
      · have K1 := lru_any T tc t (k + 1) wr (HT.out.now (Nat.le_refl _) (bT hb1 hb)) (by omega) (by omega) (by omega)
        rw [show ((k + 1 : Nat) : Int) = (k : Int) + 1 by omega] at K1
        have H1 := Lib.hid K1
        have HOWN := Lib.hid hown
        have HCS := Lib.hid hcs
        clear K1 hown
        go_wp2_with fail
        refine H1.out.mono ?_
        rintro e w2 ⟨rfl, hb2⟩
        have hown := HOWN.out.below hb2
        have hcc := hown.cell k
        rw [Array.getElem?_eq_getElem (by omega)] at hcc
        have hff := hown.free k
        go_wp2
        go_roundw
        case rel =>
          refine ⟨k + 1, _, by omega, by go_num, ?_, ?_, hown.set_ k _, bS (bT hb hb2) (Nat.le_refl _)⟩
          · rw [Array.size_setIfInBounds]; exact HCS.out
          · intro j hj
            rw [Array.getElem?_setIfInBounds]
            by_cases hjk : k = j
            · subst hjk
              rw [if_pos rfl, if_pos (by have := HCS.out; omega)]
            · rw [if_neg hjk]
              exact hc.out j (by omega)
        case measure => simp [intOf]; omega
      · have hk8 : k = 8 := by omega
        have his : Mine w.heap.size wr (some ⟨w1.heap.size, 0, none⟩) (crv t) := own_mine hown hb1.size (by rw [crv_length]; omega) (fun j hj => by
          rw [crv_length] at hj
          rw [hc.out j (by omega), icells, List.getElem?_map, crv_get t j hj]; rfl)
        have hcl := crv_length t
        go_wp2
        go_ret2
        rw [HV.out]
        exact ⟨some ⟨w1.heap.size, 0, none⟩, 8, by rw [hcl, hv]; rfl, by omega, his, bT hb1 hb⟩
  · have hv : tval t = false := by simpa using hv
    have HV : Hid (crvv t = []) := by show _ = _; unfold crvv; rw [hv]; rfl
    rw [hv] at K
    have HK := Lib.hid K
    clear K ht
    go_enter Try.func14, Try.ntmps14
    go_wp2_with fail
    refine HK.out.mono ?_
    rintro e w1 ⟨rfl, hb1⟩
    go_wp2
    go_ret2
    rw [HV.out, hv]
    exact ⟨none, 0, rfl, Nat.le_refl _, Mine.nil_, hb1⟩
theorem HitCurve_any (T : Option Addr) (tc : Nat) (t : List Key) (w : World) (ht : Ks w.heap.size w T t) (hl : t.length ≤ 9223372036854775807) :
    Calls Try.prog 14 #[.slice T t.length tc] w fun r w' => ∃ A c, r = .returned (.tuple #[.slice A (crvv t).length c, .bool (tval t)]) ∧ (crvv t).length ≤ c ∧ Is w'.heap.size w' A (crvv t) ∧ Below w.heap.size w w' :=
  (HitCurve_mine T tc t w ht hl).mono fun _ _ ⟨A, c, h1, h2, h3, h4⟩ => ⟨A, c, h1, h2, h3.is, h4⟩
theorem crvv_le (t : List Key) : (crvv t).length ≤ 40 := by
  unfold crvv
  split
  · rw [crv_length]; omega
  · simp

theorem crv_take (t : List Key) (k : Nat) (hk : k < 8) : (crv t).take (k + 1) = (crv t).take k ++ [((Tr.lru t (k + 1) : Nat) : Int)] := by
  rw [List.take_add_one, crv_get t k hk]; rfl

set_option maxHeartbeats 1000000 in
theorem sHitCurve_any (T : Option Addr) (tc : Nat) (t : List Key) (w : World) (ht : Ks w.heap.size w T t) (hl : t.length ≤ 9223372036854775807) :
    Calls Try.prog 16 #[.slice T t.length tc] w fun r w' => ∃ A c, r = .returned (.tuple #[.slice A (crvv t).length c, .bool (tval t)]) ∧ (crvv t).length ≤ c ∧ Is w'.heap.size w' A (crvv t) ∧ Below w.heap.size w w' := by
  have HT := Lib.hid ht
  by_cases hv : tval t = true
  · have HV : Hid (crvv t = crv t) := by show _ = _; unfold crvv; rw [if_pos hv]
    have h40 : t.length ≤ 40 := by
      unfold tval at hv
      rw [Bool.and_eq_true, decide_eq_true_eq] at hv
      exact hv.1
    clear ht
    go_enter Try.func16, Try.ntmps16
    go_wp2
    go_loopw [4, 5] (fun v u wr => ∃ (k : Nat), k ≤ 8 ∧ u = .int .i64 ((k : Int) + 1) ∧ wr.ownsRow w.heap.size 3 1 v k (icells ((crv t).take k)) ∧ Below w.heap.size w wr) (fun _ u _ => 9 - (intOf u).toNat)
    case atStart => exact ⟨0, by omega, rfl, by
      refine ⟨rfl, .inr ⟨w.heap.size, 0, #[], rfl, Nat.le_refl _, heap_alloc_new w _, Nat.le_refl _, by simp [maxLen], rfl, rfl⟩⟩, bA bR⟩
    case round =>
      obtain ⟨k, hk, rfl, hown, hb⟩ := hrel
      obtain ⟨A, c, rfl, hlc, hcm, hrd⟩ := own_rd hown
      by_cases hlt : k < 8
      · have K0 := l9Trace_any T tc t wr (HT.out.now (Nat.le_refl _) hb) hl
        rw [hv] at K0
        have H0 := Lib.hid K0
        have K1 := fun W (hw : Below wr.heap.size wr W) => shits_lru T tc t (k + 1) W (HT.out.now (Nat.le_refl _) (bT hb hw)) (by omega) (by omega) (by omega)
        rw [show ((k + 1 : Nat) : Int) = (k : Int) + 1 by omega] at K1
        have H1 := Lib.hid K1
        have HOWN := Lib.hid hown
        have HTK := Lib.hid (crv_take t k hlt)
        clear K0 K1 hown hrd
        go_wp2_with fail
        refine H0.out.mono ?_
        rintro e w2 ⟨rfl, hb2⟩
        go_wp2_with fail
        refine (H1.out w2 hb2).mono ?_
        rintro e w3 ⟨rfl, hb3⟩
        have hbw3 := bT hb (bT hb2 hb3)
        have hown3 := own_kept HOWN.out (bT hb2 hb3)
        obtain ⟨v4, w4, hrun, hown4, hg4, _⟩ := run_append_int w.heap.size w3 _ k _ ((Tr.lru t (k + 1) : Nat) : Int) hown3 (by rw [List.length_take, crv_length]; omega) (by omega) hbw3.size
        have hb4 := bG (bA hbw3 (o := .cells #[.int .i64 ((Tr.lru t (k + 1) : Nat) : Int)] 3)) hg4 (own_block hown3)
        rw [← HTK.out] at hown4
        have HOW4 := Lib.hid hown4
        have HB4 := Lib.hid hb4
        clear hown3 hown4 hg4 hb4
        go_wp2_with (at_builtin; refine wpList_append_run _ rfl (.tmp 15) (.tmp 19) 28 rfl _ _ _ _ rfl rfl hrun ?_)
        go_roundw
        case rel => exact ⟨k + 1, by omega, by go_num, HOW4.out, HB4.out⟩
        case measure => simp [intOf]; omega
      · have hk8 : k = 8 := by omega
        have hcl := crv_length t
        rw [List.take_of_length_le (by omega)] at hrd
        have hrd' : Is wr.heap.size wr A (crv t) := by unfold Is; rw [hcl, ← hk8]; exact hrd
        clear hown hrd
        subst hk8
        go_wp2
        go_ret2
        rw [HV.out]
        exact ⟨A, c, by rw [hcl, hv]; rfl, by omega, hrd', hb⟩
  · have hv : tval t = false := by simpa using hv
    have HV : Hid (crvv t = []) := by show _ = _; unfold crvv; rw [hv]; rfl
    clear ht
    go_enter Try.func16, Try.ntmps16
    go_wp2
    have K0 := l9Trace_any T tc t _ (HT.out.alloc (.cells #[] 3)) hl
    rw [hv] at K0
    have H0 := Lib.hid K0
    clear K0
    go_loopw [4, 5] (fun v u wr => u = .int .i64 1 ∧ wr = w.alloc (.cells #[] 3) ∧ v = .slice (some ⟨w.heap.size, 0, none⟩) 0 0) (fun _ _ _ => 0)
    case atStart => exact ⟨rfl, rfl, rfl⟩
    case round =>
      obtain ⟨rfl, rfl, rfl⟩ := hrel
      go_wp2_with fail
      refine H0.out.mono ?_
      rintro e w2 ⟨rfl, hb2⟩
      go_wp2
      go_ret2
      rw [HV.out]
      exact ⟨_, 0, by rw [hv]; rfl, Nat.le_refl _, Rd.nil_, bT (bA bR) hb2⟩
end Go.Proofs.Ytebodfciiikokaa
