import Derived.Test.YtebodfciiikokaaSpec
namespace Go.Proofs.Ytebodfciiikokaa
open Go.RowKit
theorem sHitsFifo_any (T : Option Addr) (tc : Nat) (t : List Key) (n : Int) (w : World) (ht : Ks w.heap.size w T t) (hl : t.length ≤ 9223372036854775807) :
    Calls Try.prog 27 #[.slice T t.length tc, .int .i64 n] w fun r w' => r = .returned (.tuple #[.int .i64 (cval Tr.fifo t n), .bool (rval t n)]) ∧ Below w.heap.size w w' := by
  by_cases hr : rval t n = true
  · obtain ⟨h1, h2, h40, hn1, hn8⟩ := rval_parts hr
    have HV : Hid (cval Tr.fifo t n = (Tr.fifo t n.toNat : Int)) := by show _ = _; unfold cval; rw [if_pos hr]
    obtain ⟨m, rfl⟩ := Int.eq_ofNat_of_zero_le (show 0 ≤ n by omega)
    have hm1 : 1 ≤ m := by omega
    have hm8 : m ≤ 8 := by omega
    have HT := Lib.hid ht
    have hR := l9Right_any T tc t m w ht hl
    rw [hr] at hR
    have HR := Lib.hid hR
    have HRV := Lib.hid hr
    clear ht hr h1 h2 hR
    go_enter Try.func27, Try.ntmps27
    go_wp2_with fail
    refine HR.out.mono ?_
    rintro e w1 ⟨rfl, hb⟩
    go_wp2_with fail
    refine (shits_fifo T tc t m w1 (HT.out.now (Nat.le_refl _) hb) (by omega) hm1 hm8).mono ?_
    rintro e w2 ⟨rfl, hb2⟩
    go_wp2
    go_ret2
    exact ⟨by rw [HV.out, HRV.out]; rfl, bT hb hb2⟩
  · have hr' : rval t n = false := by simpa using hr
    have HV : Hid (cval Tr.fifo t n = 0) := by show _ = _; unfold cval; rw [if_neg hr]
    have hR := l9Right_any T tc t n w ht hl
    rw [hr'] at hR
    have HR := Lib.hid hR
    have HRV := Lib.hid hr'
    clear ht hr hr' hR
    go_enter Try.func27, Try.ntmps27
    go_wp2_with fail
    refine HR.out.mono ?_
    rintro e w1 ⟨rfl, hb⟩
    go_wp2
    go_ret2
    exact ⟨by rw [HV.out, HRV.out]; rfl, hb⟩
theorem sHitsLru_any (T : Option Addr) (tc : Nat) (t : List Key) (n : Int) (w : World) (ht : Ks w.heap.size w T t) (hl : t.length ≤ 9223372036854775807) :
    Calls Try.prog 23 #[.slice T t.length tc, .int .i64 n] w fun r w' => r = .returned (.tuple #[.int .i64 (cval Tr.lru t n), .bool (rval t n)]) ∧ Below w.heap.size w w' := by
  by_cases hr : rval t n = true
  · obtain ⟨h1, h2, h40, hn1, hn8⟩ := rval_parts hr
    have HV : Hid (cval Tr.lru t n = (Tr.lru t n.toNat : Int)) := by show _ = _; unfold cval; rw [if_pos hr]
    obtain ⟨m, rfl⟩ := Int.eq_ofNat_of_zero_le (show 0 ≤ n by omega)
    have hm1 : 1 ≤ m := by omega
    have hm8 : m ≤ 8 := by omega
    have HT := Lib.hid ht
    have hR := l9Right_any T tc t m w ht hl
    rw [hr] at hR
    have HR := Lib.hid hR
    have HRV := Lib.hid hr
    clear ht hr h1 h2 hR
    go_enter Try.func23, Try.ntmps23
    go_wp2_with fail
    refine HR.out.mono ?_
    rintro e w1 ⟨rfl, hb⟩
    go_wp2_with fail
    refine (shits_lru T tc t m w1 (HT.out.now (Nat.le_refl _) hb) (by omega) hm1 hm8).mono ?_
    rintro e w2 ⟨rfl, hb2⟩
    go_wp2
    go_ret2
    exact ⟨by rw [HV.out, HRV.out]; rfl, bT hb hb2⟩
  · have hr' : rval t n = false := by simpa using hr
    have HV : Hid (cval Tr.lru t n = 0) := by show _ = _; unfold cval; rw [if_neg hr]
    have hR := l9Right_any T tc t n w ht hl
    rw [hr'] at hR
    have HR := Lib.hid hR
    have HRV := Lib.hid hr'
    clear ht hr hr' hR
    go_enter Try.func23, Try.ntmps23
    go_wp2_with fail
    refine HR.out.mono ?_
    rintro e w1 ⟨rfl, hb⟩
    go_wp2
    go_ret2
    exact ⟨by rw [HV.out, HRV.out]; rfl, hb⟩
end Go.Proofs.Ytebodfciiikokaa
