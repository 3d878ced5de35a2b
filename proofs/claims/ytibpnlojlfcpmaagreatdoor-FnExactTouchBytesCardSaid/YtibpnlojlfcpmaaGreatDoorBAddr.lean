/- A part of the proofs of this seat: Addr. -/
import Derived.Test.YtibpnlojlfcpmaaGreatDoorBOwn
set_option linter.unusedVariables false
set_option linter.unusedSimpArgs false
set_option maxRecDepth 1000000
namespace Go.Proofs.YtibpnlojlfcpmaaGreatDoor
open Go.RowKit
def aval (s p o : Int) : Bool := inR s 16 && inR p 256 && inR o 64
theorem inR_iff {n e : Int} : inR n e = true ↔ 0 ≤ n ∧ n < e := by unfold inR; rw [Bool.and_eq_true, decide_eq_true_eq, decide_eq_true_eq]
theorem aval_iff {s p o : Int} : aval s p o = true ↔ (0 ≤ s ∧ s < 16) ∧ (0 ≤ p ∧ p < 256) ∧ (0 ≤ o ∧ o < 64) := by
 unfold aval; rw [Bool.and_eq_true, Bool.and_eq_true, inR_iff, inR_iff, inR_iff, and_assoc]
theorem bool_ff {b : Bool} (h : ¬ b = true) : b = false := by simpa using h
theorem AddressValid_any (s p o : Int) (w : World) : Calls Tryz.prog 232 #[.agg #[.int .i64 s, .int .i64 p, .int .i64 o]] w fun r w' => r = .returned (.bool (aval s p o)) ∧ Below w.heap.size w w' := by
 by_cases h1 : inR s 16 = true
 ·by_cases h2 : inR p 256 = true
  ·have H : Hid (aval s p o = inR o 64) := by show _ = _; unfold aval; rw [h1, h2]; simp
   go_enter Tryz.func232, Tryz.ntmps232
   go_wp2_with (go_at_call 61; refine (within_any _ _ _).mono ?_; rintro e w' ⟨rfl, rfl⟩)
   go_ret
   exact ⟨by rw [H.out]; rfl, bA bR⟩
  ·have h2 := bool_ff h2
   have H : Hid (aval s p o = false) := by show _ = _; unfold aval; rw [h1, h2]; simp
   go_enter Tryz.func232, Tryz.ntmps232
   go_wp2_with (go_at_call 61; refine (within_any _ _ _).mono ?_; rintro e w' ⟨rfl, rfl⟩)
   go_ret
   exact ⟨by rw [H.out]; rfl, bA bR⟩
 ·have h1 := bool_ff h1
  have H : Hid (aval s p o = false) := by show _ = _; unfold aval; rw [h1]; simp
  go_enter Tryz.func232, Tryz.ntmps232
  go_wp2_with (go_at_call 61; refine (within_any _ _ _).mono ?_; rintro e w' ⟨rfl, rfl⟩)
  go_ret
  exact ⟨by rw [H.out]; rfl, bA bR⟩
theorem l1Space_any (n : Int) (w : World) : Calls Tryz.prog 55 #[.int .i64 n] w fun r w' => r = .returned (.bool (inR n 16)) ∧ w = w' := by
 by_cases h0 : 0 ≤ n
 ·have H : Hid (inR n 16 = decide (n < 16)) := by simp [Hid, inR, h0]
  go_enter Tryz.func55, Tryz.ntmps55
  go_wp2
  go_ret
  exact ⟨by rw [H.out]; rfl, rfl⟩
 ·have H : Hid (inR n 16 = false) := by simp [Hid, inR, h0]
  go_enter Tryz.func55, Tryz.ntmps55
  go_wp2
  go_ret
  exact ⟨by rw [H.out]; rfl, rfl⟩
theorem l1Page_any (n : Int) (w : World) : Calls Tryz.prog 228 #[.int .i64 n] w fun r w' => r = .returned (.bool (inR n 256)) ∧ w = w' := by
 by_cases h0 : 0 ≤ n
 ·have H : Hid (inR n 256 = decide (n < 256)) := by simp [Hid, inR, h0]
  go_enter Tryz.func228, Tryz.ntmps228
  go_wp2
  go_ret
  exact ⟨by rw [H.out]; rfl, rfl⟩
 ·have H : Hid (inR n 256 = false) := by simp [Hid, inR, h0]
  go_enter Tryz.func228, Tryz.ntmps228
  go_wp2
  go_ret
  exact ⟨by rw [H.out]; rfl, rfl⟩
theorem sAddressValid_any (s p o : Int) (w : World) : Calls Tryz.prog 243 #[.agg #[.int .i64 s, .int .i64 p, .int .i64 o]] w fun r w' => r = .returned (.bool (aval s p o)) ∧ Below w.heap.size w w' := by
 by_cases h1 : inR s 16 = true
 ·by_cases h2 : inR p 256 = true
  ·by_cases h3 : 0 ≤ o
   ·have H : Hid (aval s p o = decide (o < 64)) := by show _ = _; unfold aval; rw [h1, h2]; simp [inR, h3]
    go_enter Tryz.func243, Tryz.ntmps243
    go_wp2_with (first | (go_at_call 55; refine (l1Space_any _ _).mono ?_; rintro e w' ⟨rfl, rfl⟩) | (go_at_call 228; refine (l1Page_any _ _).mono ?_; rintro e w' ⟨rfl, rfl⟩))
    go_ret
    exact ⟨by rw [H.out]; rfl, bA bR⟩
   ·have H : Hid (aval s p o = false) := by show _ = _; unfold aval; rw [h1, h2]; simp [inR, h3]
    go_enter Tryz.func243, Tryz.ntmps243
    go_wp2_with (first | (go_at_call 55; refine (l1Space_any _ _).mono ?_; rintro e w' ⟨rfl, rfl⟩) | (go_at_call 228; refine (l1Page_any _ _).mono ?_; rintro e w' ⟨rfl, rfl⟩))
    go_ret
    exact ⟨by rw [H.out]; rfl, bA bR⟩
  ·have h2 := bool_ff h2
   have H : Hid (aval s p o = false) := by show _ = _; unfold aval; rw [h1, h2]; simp
   go_enter Tryz.func243, Tryz.ntmps243
   go_wp2_with (first | (go_at_call 55; refine (l1Space_any _ _).mono ?_; rintro e w' ⟨rfl, rfl⟩) | (go_at_call 228; refine (l1Page_any _ _).mono ?_; rintro e w' ⟨rfl, rfl⟩))
   go_ret
   exact ⟨by rw [H.out]; rfl, bA bR⟩
 ·have h1 := bool_ff h1
  have H : Hid (aval s p o = false) := by show _ = _; unfold aval; rw [h1]; simp
  go_enter Tryz.func243, Tryz.ntmps243
  go_wp2_with (first | (go_at_call 55; refine (l1Space_any _ _).mono ?_; rintro e w' ⟨rfl, rfl⟩) | (go_at_call 228; refine (l1Page_any _ _).mono ?_; rintro e w' ⟨rfl, rfl⟩))
  go_ret
  exact ⟨by rw [H.out]; rfl, bA bR⟩
def mvv (s p o n : Int) : Bool := aval s p o && decide (-16384 < n) && decide (n < 16384) && inR (p * 64 + o + n) 16384
def mvA (s p o n : Int) : Array Value := if mvv s p o n = true then #[.int .i64 s, .int .i64 ((p * 64 + o + n) / 64), .int .i64 ((p * 64 + o + n) % 64)] else #[.int .i64 0, .int .i64 0, .int .i64 0]
theorem mvv_iff {s p o n : Int} : mvv s p o n = true ↔ aval s p o = true ∧ (-16384 < n ∧ n < 16384) ∧ (0 ≤ p * 64 + o + n ∧ p * 64 + o + n < 16384) := by
 unfold mvv
 rw [Bool.and_eq_true, Bool.and_eq_true, Bool.and_eq_true, decide_eq_true_eq, decide_eq_true_eq, inR_iff, and_assoc, and_assoc, and_assoc]
theorem two_box {w w1 : World} {t t' : TypeId} {cs cs' : Array Value} (hb : Below ((w.alloc (.cells cs t)).alloc (.cells cs' t')).heap.size ((w.alloc (.cells cs t)).alloc (.cells cs' t')) w1) :
  Own w1 w.heap.size t cs ∧ Own w1 (w.heap.size + 1) t' cs' ∧ Below w.heap.size w w1 := by
 refine ⟨((Own.new_ w t cs).alloc).below hb, ?_, bT (bA (bA bR)) hb⟩
 have h := Own.new_ (w.alloc (.cells cs t)) t' cs'
 rw [show (w.alloc (.cells cs t)).heap.size = w.heap.size + 1 by simp] at h
 exact h.below hb
theorem one_box {w w1 : World} {t : TypeId} {cs : Array Value} (hb : Below (w.alloc (.cells cs t)).heap.size (w.alloc (.cells cs t)) w1) : Own w1 w.heap.size t cs ∧ Below w.heap.size w w1 :=
 ⟨(Own.new_ w t cs).below hb, bT (bA bR) hb⟩
theorem Own.set3 {w : World} {g : Nat} {t : TypeId} {a b c x y z : Value} (h : Own w g t #[a, b, c]) :
  Own (((w.setCell ⟨g, 0, none⟩ x).setCell ⟨g, 1, none⟩ y).setCell ⟨g, 2, none⟩ z) g t #[x, y, z] := by
 have := ((h.set_ 0 x).set_ 1 y).set_ 2 z
 simpa using this
set_option maxHeartbeats 1000000 in
theorem sMoveAddress_any (s p o n : Int) (w : World) : Calls Tryz.prog 227 #[.agg #[.int .i64 s, .int .i64 p, .int .i64 o], .int .i64 n] w fun r w' => r = .returned (.tuple #[.agg (mvA s p o n), .bool (mvv s p o n)]) ∧ Below w.heap.size w w' := by
 by_cases hv : mvv s p o n = true
 ·obtain ⟨h1, ⟨h2, h3⟩, h4, h5⟩ := mvv_iff.1 hv
  obtain ⟨_, ⟨h6, h7⟩, h8, h9⟩ := aval_iff.1 h1
  have HV : Hid (mvv s p o n = true) := hv
  have HA : Hid (mvA s p o n = #[.int .i64 s, .int .i64 ((p * 64 + o + n) / 64), .int .i64 ((p * 64 + o + n) % 64)]) := by show _ = _; unfold mvA; rw [if_pos hv]
  have hi : inR (p * 64 + o + n) 16384 = true := inR_iff.2 ⟨h4, h5⟩
  have k1 : IntKind.i64.wrap (p * 64) = p * 64 := IntWalk.i64_in _ (by omega)
  have k2 : IntKind.i64.wrap (p * 64 + o) = p * 64 + o := IntWalk.i64_in _ (by omega)
  have k3 : IntKind.i64.wrap (p * 64 + o + n) = p * 64 + o + n := IntWalk.i64_in _ (by omega)
  have g1 : ¬ n ≤ -16384 := by omega
  have g2 : ¬ 16384 ≤ n := by omega
  clear hv
  go_enter Tryz.func227, Tryz.ntmps227
  go_wp2_with fail
  refine (sAddressValid_any _ _ _ _).mono ?_
  rintro e w1 ⟨rfl, hb1⟩
  obtain ⟨oa, or, hbw⟩ := two_box hb1
  have a0 := oa.cell_ 0 (v := .int .i64 s) rfl
  have a1 := oa.cell_ 1 (v := .int .i64 p) rfl
  have a2 := oa.cell_ 2 (v := .int .i64 o) rfl
  have r0 := or.cell_ 0 (v := .int .i64 0) rfl
  have r1 := or.cell_ 1 (v := .int .i64 0) rfl
  have r2 := or.cell_ 2 (v := .int .i64 0) rfl
  have f0 := or.free 0
  have f1 := or.free 1
  have f2 := or.free 2
  have OR := Hd or
  clear oa or hb1
  rw [h1]
  go_wp2
  have o3 := OR.out.set3 (x := .int .i64 s) (y := .int .i64 ((p * 64 + o + n) / 64)) (z := .int .i64 ((p * 64 + o + n) % 64))
  have t0 := o3.cell_ 0 (v := .int .i64 s) rfl
  have t1 := o3.cell_ 1 (v := .int .i64 ((p * 64 + o + n) / 64)) rfl
  have t2 := o3.cell_ 2 (v := .int .i64 ((p * 64 + o + n) % 64)) rfl
  clear o3
  refine bodyPost_ret (v := .tuple #[.agg #[.int .i64 s, .int .i64 ((p * 64 + o + n) / 64), .int .i64 ((p * 64 + o + n) % 64)], .bool true]) (by simp [results, Tryz.results227, go_sem, t0, t1, t2]) rfl ⟨by rw [HA.out, HV.out], ?_⟩
  exact bS (bS (bS hbw (by simp)) (by simp)) (by simp)
 ·have hv := bool_ff hv
  have HV : Hid (mvv s p o n = false) := hv
  have HA : Hid (mvA s p o n = #[.int .i64 0, .int .i64 0, .int .i64 0]) := by show _ = _; unfold mvA; rw [hv]; rfl
  by_cases h1 : aval s p o = true
  ·obtain ⟨_, ⟨h6, h7⟩, h8, h9⟩ := aval_iff.1 h1
   by_cases g1 : n ≤ -16384
   ·clear hv
    go_enter Tryz.func227, Tryz.ntmps227
    go_wp2_with fail
    refine (sAddressValid_any _ _ _ _).mono ?_
    rintro e w1 ⟨rfl, hb1⟩
    obtain ⟨oa, or, hbw⟩ := two_box hb1
    have a0 := oa.cell_ 0 (v := .int .i64 s) rfl
    have a1 := oa.cell_ 1 (v := .int .i64 p) rfl
    have a2 := oa.cell_ 2 (v := .int .i64 o) rfl
    have r0 := or.cell_ 0 (v := .int .i64 0) rfl
    have r1 := or.cell_ 1 (v := .int .i64 0) rfl
    have r2 := or.cell_ 2 (v := .int .i64 0) rfl
    have f0 := or.free 0
    have f1 := or.free 1
    have f2 := or.free 2
    have OR := Hd or
    clear oa or hb1
    rw [h1]
    go_wp2
    refine bodyPost_ret (v := .tuple #[.agg #[.int .i64 0, .int .i64 0, .int .i64 0], .bool false]) (by simp [results, Tryz.results227, go_sem, r0, r1, r2]) rfl ⟨by rw [HA.out, HV.out], ?_⟩
    first | exact hbw | exact bS (bS (bS hbw (by simp)) (by simp)) (by simp)
   ·by_cases g2 : 16384 ≤ n
    ·clear hv
     go_enter Tryz.func227, Tryz.ntmps227
     go_wp2_with fail
     refine (sAddressValid_any _ _ _ _).mono ?_
     rintro e w1 ⟨rfl, hb1⟩
     obtain ⟨oa, or, hbw⟩ := two_box hb1
     have a0 := oa.cell_ 0 (v := .int .i64 s) rfl
     have a1 := oa.cell_ 1 (v := .int .i64 p) rfl
     have a2 := oa.cell_ 2 (v := .int .i64 o) rfl
     have r0 := or.cell_ 0 (v := .int .i64 0) rfl
     have r1 := or.cell_ 1 (v := .int .i64 0) rfl
     have r2 := or.cell_ 2 (v := .int .i64 0) rfl
     have f0 := or.free 0
     have f1 := or.free 1
     have f2 := or.free 2
     have OR := Hd or
     clear oa or hb1
     rw [h1]
     go_wp2
     refine bodyPost_ret (v := .tuple #[.agg #[.int .i64 0, .int .i64 0, .int .i64 0], .bool false]) (by simp [results, Tryz.results227, go_sem, r0, r1, r2]) rfl ⟨by rw [HA.out, HV.out], ?_⟩
     first | exact hbw | exact bS (bS (bS hbw (by simp)) (by simp)) (by simp)
    ·have hi : inR (p * 64 + o + n) 16384 = false := by
      apply bool_ff
      intro h
      rw [mvv_iff.2 ⟨h1, ⟨by omega, by omega⟩, inR_iff.1 h⟩] at hv
      cases hv
     have k1 : IntKind.i64.wrap (p * 64) = p * 64 := IntWalk.i64_in _ (by omega)
     have k2 : IntKind.i64.wrap (p * 64 + o) = p * 64 + o := IntWalk.i64_in _ (by omega)
     have k3 : IntKind.i64.wrap (p * 64 + o + n) = p * 64 + o + n := IntWalk.i64_in _ (by omega)
     have hneg : ¬ (0 ≤ p * 64 + o + n ∧ p * 64 + o + n < 16384) := fun h => by rw [inR_iff.2 h] at hi; cases hi
     clear hv
     by_cases hn0 : p * 64 + o + n < 0
     ·clear hneg
      go_enter Tryz.func227, Tryz.ntmps227
      go_wp2_with fail
      refine (sAddressValid_any _ _ _ _).mono ?_
      rintro e w1 ⟨rfl, hb1⟩
      obtain ⟨oa, or, hbw⟩ := two_box hb1
      have a0 := oa.cell_ 0 (v := .int .i64 s) rfl
      have a1 := oa.cell_ 1 (v := .int .i64 p) rfl
      have a2 := oa.cell_ 2 (v := .int .i64 o) rfl
      have r0 := or.cell_ 0 (v := .int .i64 0) rfl
      have r1 := or.cell_ 1 (v := .int .i64 0) rfl
      have r2 := or.cell_ 2 (v := .int .i64 0) rfl
      have f0 := or.free 0
      have f1 := or.free 1
      have f2 := or.free 2
      have OR := Hd or
      clear oa or hb1
      rw [h1]
      go_wp2
      refine bodyPost_ret (v := .tuple #[.agg #[.int .i64 0, .int .i64 0, .int .i64 0], .bool false]) (by simp [results, Tryz.results227, go_sem, r0, r1, r2]) rfl ⟨by rw [HA.out, HV.out], ?_⟩
      first | exact hbw | exact bS (bS (bS hbw (by simp)) (by simp)) (by simp)
     ·have hn1 : 16384 ≤ p * 64 + o + n := by omega
      clear hneg
      go_enter Tryz.func227, Tryz.ntmps227
      go_wp2_with fail
      refine (sAddressValid_any _ _ _ _).mono ?_
      rintro e w1 ⟨rfl, hb1⟩
      obtain ⟨oa, or, hbw⟩ := two_box hb1
      have a0 := oa.cell_ 0 (v := .int .i64 s) rfl
      have a1 := oa.cell_ 1 (v := .int .i64 p) rfl
      have a2 := oa.cell_ 2 (v := .int .i64 o) rfl
      have r0 := or.cell_ 0 (v := .int .i64 0) rfl
      have r1 := or.cell_ 1 (v := .int .i64 0) rfl
      have r2 := or.cell_ 2 (v := .int .i64 0) rfl
      have f0 := or.free 0
      have f1 := or.free 1
      have f2 := or.free 2
      have OR := Hd or
      clear oa or hb1
      rw [h1]
      go_wp2
      refine bodyPost_ret (v := .tuple #[.agg #[.int .i64 0, .int .i64 0, .int .i64 0], .bool false]) (by simp [results, Tryz.results227, go_sem, r0, r1, r2]) rfl ⟨by rw [HA.out, HV.out], ?_⟩
      first | exact hbw | exact bS (bS (bS hbw (by simp)) (by simp)) (by simp)
  ·have h1 := bool_ff h1
   clear hv
   go_enter Tryz.func227, Tryz.ntmps227
   go_wp2_with fail
   refine (sAddressValid_any _ _ _ _).mono ?_
   rintro e w1 ⟨rfl, hb1⟩
   obtain ⟨oa, or, hbw⟩ := two_box hb1
   have a0 := oa.cell_ 0 (v := .int .i64 s) rfl
   have a1 := oa.cell_ 1 (v := .int .i64 p) rfl
   have a2 := oa.cell_ 2 (v := .int .i64 o) rfl
   have r0 := or.cell_ 0 (v := .int .i64 0) rfl
   have r1 := or.cell_ 1 (v := .int .i64 0) rfl
   have r2 := or.cell_ 2 (v := .int .i64 0) rfl
   have f0 := or.free 0
   have f1 := or.free 1
   have f2 := or.free 2
   have OR := Hd or
   clear oa or hb1
   rw [h1]
   go_wp2
   refine bodyPost_ret (v := .tuple #[.agg #[.int .i64 0, .int .i64 0, .int .i64 0], .bool false]) (by simp [results, Tryz.results227, go_sem, r0, r1, r2]) rfl ⟨by rw [HA.out, HV.out], ?_⟩
   first | exact hbw | exact bS (bS (bS hbw (by simp)) (by simp)) (by simp)
end Go.Proofs.YtibpnlojlfcpmaaGreatDoor
