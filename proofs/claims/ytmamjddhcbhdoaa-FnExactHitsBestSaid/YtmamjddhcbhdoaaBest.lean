import Derived.Test.YtmamjddhcbhdoaaTop
namespace Go.Proofs.Ytmamjddhcbhdoaa
open Go.RowKit

theorem HitsBest_any (T : Option Addr) (tc : Nat) (t : List Key) (n : Int) (w : World) (ht : Ks w.heap.size w T t) (htc : t.length ≤ tc) (hl : t.length ≤ 9223372036854775807) :
    Calls Try.prog 22 #[.slice T t.length tc, .int .i64 n] w fun r w' => r = .returned (.tuple #[.int .i64 (cval Tr.best t n), .bool (rval t n)]) ∧ Below w.heap.size w w' := by
  by_cases hr : rval t n = true
  · obtain ⟨h1, h2, h40, hn1, hn8⟩ := rval_parts hr
    have HV : Hid (cval Tr.best t n = (Tr.best t n.toNat : Int)) := by show _ = _; unfold cval; rw [if_pos hr]
    have HR := Lib.hid hr
    obtain ⟨m, rfl⟩ := Int.eq_ofNat_of_zero_le (show 0 ≤ n by omega)
    have hm1 : 1 ≤ m := by omega
    have hm8 : m ≤ 8 := by omega
    have HT := Lib.hid ht
    clear ht hr
    go_enter Try.func22, Try.ntmps22
    go_wp2_with fail
    refine (traceValid_any T tc t _ (HT.out.alloc (.cells #[.slice T t.length tc] 23)) hl).mono ?_
    rintro e w1 ⟨rfl, hb'⟩
    have hb := bT (bA bR) hb'
    have hbx := (Own.new_ w 23 #[.slice T t.length tc]).below hb'
    have q0 := hbx.cell_ 0 (v := .slice T t.length tc) rfl
    have hps : w.heap.size < w1.heap.size := hbx.lt
    have HQ := Lib.hid q0
    have HPS := Lib.hid hps
    go_wp2_with (first | (go_at_call 26; refine (linesValid_any _ _).mono ?_; rintro e w' ⟨rfl, rfl⟩) | fail)
    refine (hits_best T tc t m w1 w.heap.size HQ HPS htc (HT.out.now (Nat.le_refl _) hb) (by omega) hm1 hm8).mono ?_
    rintro e w2 ⟨rfl, hb2⟩
    go_wp2
    go_ret2
    exact ⟨by rw [HV.out, HR.out]; rfl, bT hb hb2⟩
  · have hr' : rval t n = false := by simpa using hr
    have HV : Hid (cval Tr.best t n = 0) := by show _ = _; unfold cval; rw [if_neg hr]
    have HR := Lib.hid hr'
    have HT := Lib.hid ht
    by_cases h1 : tval t = true
    · have h2 : lval n = false := by unfold rval at hr'; rw [h1] at hr'; simpa using hr'
      clear ht hr hr'
      go_enter Try.func22, Try.ntmps22
      go_wp2_with fail
      refine (traceValid_any T tc t _ (HT.out.alloc (.cells #[.slice T t.length tc] 23)) hl).mono ?_
      rintro e w1 ⟨rfl, hb'⟩
      have hb := bT (bA bR) hb'
      have hbx := (Own.new_ w 23 #[.slice T t.length tc]).below hb'
      have q0 := hbx.cell_ 0 (v := .slice T t.length tc) rfl
      have hps : w.heap.size < w1.heap.size := hbx.lt
      go_wp2_with (go_at_call 26; refine (linesValid_any _ _).mono ?_; rintro e w' ⟨rfl, rfl⟩)
      go_ret2
      exact ⟨by rw [HV.out, HR.out]; rfl, hb⟩
    · have h1 : tval t = false := by simpa using h1
      clear ht hr hr'
      go_enter Try.func22, Try.ntmps22
      go_wp2_with fail
      refine (traceValid_any T tc t _ (HT.out.alloc (.cells #[.slice T t.length tc] 23)) hl).mono ?_
      rintro e w1 ⟨rfl, hb'⟩
      have hb := bT (bA bR) hb'
      have hbx := (Own.new_ w 23 #[.slice T t.length tc]).below hb'
      have q0 := hbx.cell_ 0 (v := .slice T t.length tc) rfl
      have hps : w.heap.size < w1.heap.size := hbx.lt
      go_wp2
      go_ret2
      exact ⟨by rw [HV.out, HR.out]; rfl, hb⟩
end Go.Proofs.Ytmamjddhcbhdoaa
