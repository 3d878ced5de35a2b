import Derived.Test.YtebodfciiikokaaCurve
namespace Go.Proofs.Ytebodfciiikokaa
open Go.RowKit

/-- the fewest lines with so many hits, less one -/
def lf (t : List Key) (h : Int) : Option Nat := if tval t = true then (List.range 8).find? (fun i => decide (h ≤ ((Tr.lru t (i + 1) : Nat) : Int))) else none
def lfv (t : List Key) (h : Int) : Int := match lf t h with | some k => (k : Int) + 1 | none => 0
theorem lf_some {t : List Key} {h : Int} {k : Nat} (hv : tval t = true) (hk : k < 8) (hh : h ≤ ((Tr.lru t (k + 1) : Nat) : Int)) (hj : ∀ j, j < k → ((Tr.lru t (j + 1) : Nat) : Int) < h) : lf t h = some k := by
  unfold lf
  rw [if_pos hv, List.find?_range_eq_some]
  refine ⟨by simpa using hh, by simpa using hk, fun j hjk => ?_⟩
  have := hj j hjk
  simp
  omega
theorem lf_none {t : List Key} {h : Int} (hj : ∀ j, j < 8 → ((Tr.lru t (j + 1) : Nat) : Int) < h) : lf t h = none := by
  unfold lf
  by_cases hv : tval t = true
  · rw [if_pos hv, List.find?_range_eq_none]
    intro j hj8
    have := hj j hj8
    simp
    omega
  · rw [if_neg hv]
theorem lf_parts {t : List Key} {h : Int} {k : Nat} (e : lf t h = some k) : tval t = true ∧ k < 8 ∧ h ≤ ((Tr.lru t (k + 1) : Nat) : Int) ∧ (∀ j, j < k → ((Tr.lru t (j + 1) : Nat) : Int) < h) := by
  unfold lf at e
  split at e
  · rename_i hv
    rw [List.find?_range_eq_some] at e
    obtain ⟨h1, h2, h3⟩ := e
    refine ⟨hv, by simpa using h2, by simpa using h1, fun j hj => ?_⟩
    have := h3 j hj
    simp at this
    omega
  · cases e
theorem lf_none_parts {t : List Key} {h : Int} (hv : tval t = true) (e : lf t h = none) (j : Nat) (hj : j < 8) : ((Tr.lru t (j + 1) : Nat) : Int) < h := by
  unfold lf at e
  rw [if_pos hv, List.find?_range_eq_none] at e
  have := e j hj
  simp at this
  omega
theorem lf_bad {t : List Key} {h : Int} (hv : tval t = false) : lf t h = none := by
  unfold lf
  rw [hv]; rfl

theorem LinesFor_any (T : Option Addr) (tc : Nat) (t : List Key) (h : Int) (w : World) (ht : Ks w.heap.size w T t) (hl : t.length ≤ 9223372036854775807) :
    Calls Try.prog 12 #[.slice T t.length tc, .int .i64 h] w fun r w' => r = .returned (.tuple #[.int .i64 (lfv t h), .bool (lf t h).isSome]) ∧ Below w.heap.size w w' := by
  have K := HitCurve_any T tc t w ht hl
  by_cases hv : tval t = true
  · have hcv : crvv t = crv t := by unfold crvv; rw [if_pos hv]
    have hcl := crv_length t
    rw [hcv, hv, hcl] at K
    have HK := Lib.hid K
    clear K ht hcv
    go_enter Try.func12, Try.ntmps12
    go_wp2_with fail
    refine HK.out.mono ?_
    rintro e w1 ⟨A, c, rfl, hcc, his, hb1⟩
    have HIS := Lib.hid his
    clear his
    go_wp2
    go_loopw [19] (fun u wr => ∃ k : Nat, k ≤ 8 ∧ u = .int .i64 k ∧ Hid (∀ j, j < k → ((Tr.lru t (j + 1) : Nat) : Int) < h) ∧ Below w1.heap.size w1 wr) (fun u _ => 8 - (intOf u).toNat)
    case atStart => exact ⟨0, by omega, rfl, (fun j hj => absurd hj (by omega)), bR⟩
    case round =>
      obtain ⟨k, hk, rfl, hj, hb⟩ := hrel
      by_cases hlt : k < 8
      · obtain ⟨b, o, v, rfl, hbb, c1, e1⟩ := (HIS.out.below hb).int (k := k) (by rw [hcl]; exact hlt)
        rw [crv_get t k hlt] at e1
        injection e1 with e1
        subst e1
        by_cases hh : h ≤ ((Tr.lru t (k + 1) : Nat) : Int)
        · have HL := Lib.hid (lf_some hv hlt hh hj.out)
          have hq : decide (((Tr.lru t (k + 1) : Nat) : Int) ≥ h) = true := by simpa using hh
          go_wp2
          go_ret2
          unfold lfv
          rw [HL.out]
          exact ⟨rfl, bT hb1 hb⟩
        · have hj' : Hid (∀ j, j < k + 1 → ((Tr.lru t (j + 1) : Nat) : Int) < h) := by
            intro j hj2
            by_cases hjk : j = k
            · subst hjk; omega
            · exact hj.out j (by omega)
          have hq : decide (((Tr.lru t (k + 1) : Nat) : Int) ≥ h) = false := by simpa using hh
          go_wp2
          go_roundw
          case rel => exact ⟨k + 1, by omega, by go_num, hj', hb⟩
          case measure => simp [intOf]; omega
      · have hk8 : k = 8 := by omega
        have HL : Hid (lf t h = none) := lf_none (fun j h8 => hj.out j (by omega))
        subst hk8
        go_wp2
        go_ret2
        unfold lfv
        rw [HL.out]
        exact ⟨rfl, bT hb1 hb⟩
  · have hv : tval t = false := by simpa using hv
    have HL : Hid (lf t h = none) := lf_bad hv
    rw [hv] at K
    have HK := Lib.hid K
    clear K ht
    go_enter Try.func12, Try.ntmps12
    go_wp2_with fail
    refine HK.out.mono ?_
    rintro e w1 ⟨A, c, rfl, hcc, his, hb1⟩
    go_wp2
    go_ret2
    unfold lfv
    rw [HL.out]
    exact ⟨rfl, hb1⟩

theorem sLinesFor_any (T : Option Addr) (tc : Nat) (t : List Key) (h : Int) (w : World) (ht : Ks w.heap.size w T t) (hl : t.length ≤ 9223372036854775807) :
    Calls Try.prog 13 #[.slice T t.length tc, .int .i64 h] w fun r w' => r = .returned (.tuple #[.int .i64 (lfv t h), .bool (lf t h).isSome]) ∧ Below w.heap.size w w' := by
  have HT := Lib.hid ht
  by_cases hv : tval t = true
  · have h40 : t.length ≤ 40 := by
      unfold tval at hv
      rw [Bool.and_eq_true, decide_eq_true_eq] at hv
      exact hv.1
    clear ht
    go_enter Try.func13, Try.ntmps13
    go_wp2
    go_loopw [6] (fun u wr => ∃ k : Nat, k ≤ 8 ∧ u = .int .i64 ((k : Int) + 1) ∧ Hid (∀ j, j < k → ((Tr.lru t (j + 1) : Nat) : Int) < h) ∧ Below w.heap.size w wr) (fun u _ => 9 - (intOf u).toNat)
    case atStart => exact ⟨0, by omega, rfl, (fun j hj => absurd hj (by omega)), bR⟩
    case round =>
      obtain ⟨k, hk, rfl, hj, hb⟩ := hrel
      by_cases hlt : k < 8
      · have K0 := l9Trace_any T tc t wr (HT.out.now (Nat.le_refl _) hb) hl
        rw [hv] at K0
        have H0 := Lib.hid K0
        have K1 := fun W (hw : Below wr.heap.size wr W) => shits_lru T tc t (k + 1) W (HT.out.now (Nat.le_refl _) (bT hb hw)) (by omega) (by omega) (by omega)
        rw [show ((k + 1 : Nat) : Int) = (k : Int) + 1 by omega] at K1
        have H1 := Lib.hid K1
        clear K0 K1
        go_wp2_with fail
        refine H0.out.mono ?_
        rintro e w2 ⟨rfl, hb2⟩
        go_wp2_with fail
        refine (H1.out w2 hb2).mono ?_
        rintro e w3 ⟨rfl, hb3⟩
        have hbw3 := bT hb (bT hb2 hb3)
        by_cases hh : h ≤ ((Tr.lru t (k + 1) : Nat) : Int)
        · have HL := Lib.hid (lf_some hv hlt hh hj.out)
          have hq : decide (((Tr.lru t (k + 1) : Nat) : Int) ≥ h) = true := by simpa using hh
          unfold Tr.lru at hh hq
          go_wp2
          go_ret2
          unfold lfv
          rw [HL.out]
          exact ⟨rfl, hbw3⟩
        · have hj' : Hid (∀ j, j < k + 1 → ((Tr.lru t (j + 1) : Nat) : Int) < h) := by
            intro j hj2
            by_cases hjk : j = k
            · subst hjk; omega
            · exact hj.out j (by omega)
          have hq : decide (((Tr.lru t (k + 1) : Nat) : Int) ≥ h) = false := by simpa using hh
          unfold Tr.lru at hh hq
          go_wp2
          go_roundw
          case rel => exact ⟨k + 1, by omega, by go_num, hj', hbw3⟩
          case measure => simp [intOf]; omega
      · have hk8 : k = 8 := by omega
        have HL : Hid (lf t h = none) := lf_none (fun j h8 => hj.out j (by omega))
        subst hk8
        go_wp2
        go_ret2
        unfold lfv
        rw [HL.out]
        exact ⟨rfl, hb⟩
  · have hv : tval t = false := by simpa using hv
    have HL : Hid (lf t h = none) := lf_bad hv
    have K0 := l9Trace_any T tc t w ht hl
    rw [hv] at K0
    have H0 := Lib.hid K0
    clear K0 ht
    go_enter Try.func13, Try.ntmps13
    go_wp2
    go_loopw [6] (fun u wr => u = .int .i64 1 ∧ wr = w) (fun _ _ => 0)
    case atStart => exact ⟨rfl, rfl⟩
    case round =>
      obtain ⟨rfl, rfl⟩ := hrel
      go_wp2_with fail
      refine H0.out.mono ?_
      rintro e w2 ⟨rfl, hb2⟩
      go_wp2
      go_ret2
      unfold lfv
      rw [HL.out]
      exact ⟨rfl, hb2⟩
end Go.Proofs.Ytebodfciiikokaa
