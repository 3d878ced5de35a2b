import Derived.Test.YtebodfciiikokaaHits
import Derived.Test.YtebodfciiikokaaHits2
import Derived.Test.YtebodfciiikokaaHits3
namespace Go.Proofs.Ytebodfciiikokaa
open Go.RowKit

theorem lru_any (T : Option Addr) (tc : Nat) (t : List Key) (m : Nat) (w : World) (ht : Ks w.heap.size w T t) (htl : t.length ≤ 1048576) (hm1 : 1 ≤ m) (hm8 : m ≤ 8) :
    Calls Try.prog 39 #[.slice T t.length tc, .int .i64 m] w fun r w' => r = .returned (.int .i64 (Tr.lru t m)) ∧ Below w.heap.size w w' := by
  go_enter Try.func39, Try.ntmps39
  go_wp2_with fail
  refine (hits_lru T tc t m w ht htl hm1 hm8).mono ?_
  rintro e w1 ⟨rfl, hb⟩
  go_wp2
  go_ret
  exact ⟨rfl, hb⟩

/-- what the counting functions give -/
def cval (f : List Key → Nat → Nat) (t : List Key) (n : Int) : Int := if rval t n = true then (f t n.toNat : Int) else 0
theorem rval_parts {t : List Key} {n : Int} (h : rval t n = true) : tval t = true ∧ lval n = true ∧ t.length ≤ 40 ∧ 1 ≤ n ∧ n ≤ 8 := by
  unfold rval at h
  rw [Bool.and_eq_true] at h
  obtain ⟨h1, h2⟩ := h
  have h3 := h1
  unfold tval at h3
  rw [Bool.and_eq_true, decide_eq_true_eq] at h3
  have h4 := h2
  unfold lval at h4
  rw [Bool.and_eq_true, decide_eq_true_eq, decide_eq_true_eq] at h4
  exact ⟨h1, h2, h3.1, h4.1, h4.2⟩


theorem HitsFifo_any (T : Option Addr) (tc : Nat) (t : List Key) (n : Int) (w : World) (ht : Ks w.heap.size w T t) (htc : t.length ≤ tc) (hl : t.length ≤ 9223372036854775807) :
    Calls Try.prog 26 #[.slice T t.length tc, .int .i64 n] w fun r w' => r = .returned (.tuple #[.int .i64 (cval Tr.fifo t n), .bool (rval t n)]) ∧ Below w.heap.size w w' := by
  by_cases hr : rval t n = true
  · obtain ⟨h1, h2, h40, hn1, hn8⟩ := rval_parts hr
    have HV : Hid (cval Tr.fifo t n = (Tr.fifo t n.toNat : Int)) := by show _ = _; unfold cval; rw [if_pos hr]
    have HR := Lib.hid hr
    obtain ⟨m, rfl⟩ := Int.eq_ofNat_of_zero_le (show 0 ≤ n by omega)
    have hm1 : 1 ≤ m := by omega
    have hm8 : m ≤ 8 := by omega
    have HT := Lib.hid ht
    clear ht hr
    go_enter Try.func26, Try.ntmps26
    go_wp2_with fail
    refine (traceValid_any T tc t w HT.out hl).mono ?_
    rintro e w1 ⟨rfl, hb⟩
    go_wp2_with (first | (go_at_call 40; refine (linesValid_any _ _).mono ?_; rintro e w' ⟨rfl, rfl⟩) | fail)
    refine (hits_fifo T tc t m w1 (HT.out.now (Nat.le_refl _) hb) (by omega) hm1 hm8).mono ?_
    rintro e w2 ⟨rfl, hb2⟩
    go_wp2
    go_ret2
    exact ⟨by rw [HV.out, HR.out]; rfl, bT hb hb2⟩
  · have hr' : rval t n = false := by simpa using hr
    have HV : Hid (cval Tr.fifo t n = 0) := by show _ = _; unfold cval; rw [if_neg hr]
    have HR := Lib.hid hr'
    have HT := Lib.hid ht
    by_cases h1 : tval t = true
    · have h2 : lval n = false := by unfold rval at hr'; rw [h1] at hr'; simpa using hr'
      clear ht hr hr'
      go_enter Try.func26, Try.ntmps26
      go_wp2_with fail
      refine (traceValid_any T tc t w HT.out hl).mono ?_
      rintro e w1 ⟨rfl, hb⟩
      go_wp2_with (go_at_call 40; refine (linesValid_any _ _).mono ?_; rintro e w' ⟨rfl, rfl⟩)
      go_ret2
      exact ⟨by rw [HV.out, HR.out]; rfl, hb⟩
    · have h1 : tval t = false := by simpa using h1
      clear ht hr hr'
      go_enter Try.func26, Try.ntmps26
      go_wp2_with fail
      refine (traceValid_any T tc t w HT.out hl).mono ?_
      rintro e w1 ⟨rfl, hb⟩
      go_wp2
      go_ret2
      exact ⟨by rw [HV.out, HR.out]; rfl, hb⟩
theorem HitsLru_any (T : Option Addr) (tc : Nat) (t : List Key) (n : Int) (w : World) (ht : Ks w.heap.size w T t) (htc : t.length ≤ tc) (hl : t.length ≤ 9223372036854775807) :
    Calls Try.prog 18 #[.slice T t.length tc, .int .i64 n] w fun r w' => r = .returned (.tuple #[.int .i64 (cval Tr.lru t n), .bool (rval t n)]) ∧ Below w.heap.size w w' := by
  by_cases hr : rval t n = true
  · obtain ⟨h1, h2, h40, hn1, hn8⟩ := rval_parts hr
    have HV : Hid (cval Tr.lru t n = (Tr.lru t n.toNat : Int)) := by show _ = _; unfold cval; rw [if_pos hr]
    have HR := Lib.hid hr
    obtain ⟨m, rfl⟩ := Int.eq_ofNat_of_zero_le (show 0 ≤ n by omega)
    have hm1 : 1 ≤ m := by omega
    have hm8 : m ≤ 8 := by omega
    have HT := Lib.hid ht
    clear ht hr
    go_enter Try.func18, Try.ntmps18
    go_wp2_with fail
    refine (traceValid_any T tc t w HT.out hl).mono ?_
    rintro e w1 ⟨rfl, hb⟩
    go_wp2_with (first | (go_at_call 40; refine (linesValid_any _ _).mono ?_; rintro e w' ⟨rfl, rfl⟩) | fail)
    refine (lru_any T tc t m w1 (HT.out.now (Nat.le_refl _) hb) (by omega) hm1 hm8).mono ?_
    rintro e w2 ⟨rfl, hb2⟩
    go_wp2
    go_ret2
    exact ⟨by rw [HV.out, HR.out]; rfl, bT hb hb2⟩
  · have hr' : rval t n = false := by simpa using hr
    have HV : Hid (cval Tr.lru t n = 0) := by show _ = _; unfold cval; rw [if_neg hr]
    have HR := Lib.hid hr'
    have HT := Lib.hid ht
    by_cases h1 : tval t = true
    · have h2 : lval n = false := by unfold rval at hr'; rw [h1] at hr'; simpa using hr'
      clear ht hr hr'
      go_enter Try.func18, Try.ntmps18
      go_wp2_with fail
      refine (traceValid_any T tc t w HT.out hl).mono ?_
      rintro e w1 ⟨rfl, hb⟩
      go_wp2_with (go_at_call 40; refine (linesValid_any _ _).mono ?_; rintro e w' ⟨rfl, rfl⟩)
      go_ret2
      exact ⟨by rw [HV.out, HR.out]; rfl, hb⟩
    · have h1 : tval t = false := by simpa using h1
      clear ht hr hr'
      go_enter Try.func18, Try.ntmps18
      go_wp2_with fail
      refine (traceValid_any T tc t w HT.out hl).mono ?_
      rintro e w1 ⟨rfl, hb⟩
      go_wp2
      go_ret2
      exact ⟨by rw [HV.out, HR.out]; rfl, hb⟩
end Go.Proofs.Ytebodfciiikokaa
