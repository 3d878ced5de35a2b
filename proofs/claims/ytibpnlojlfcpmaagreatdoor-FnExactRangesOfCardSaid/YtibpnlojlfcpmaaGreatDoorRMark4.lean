/- A part of the proofs of this seat: Mark4. -/
import Derived.Deep.RegionHeldLaw
import Derived.Test.YtibpnlojlfcpmaaGreatDoorRMark3
set_option linter.unusedVariables false
set_option linter.unusedSimpArgs false
set_option maxRecDepth 1000000
namespace Go.Proofs.YtibpnlojlfcpmaaGreatDoor
open Go.RowKit
theorem szTable_any (A A' : Option Addr) (c c' : Nat) (n n' : Nat) (left : Int) (w : World) (hn : n ≤ 9223372036854775807) (hn' : n' ≤ 9223372036854775807) (h0 : 0 ≤ left) (h1 : left ≤ 1048576) :
  Calls Tryz.prog 51 #[.agg #[.slice A n c, .slice A' n' c'], .int .i64 left] w fun r w' => r = .returned (.int .i64 (if left < (n : Int) + n' then -1 else left - n - n')) ∧ Below w.heap.size w w' := by
 by_cases ha : left - (n : Int) < 0
 ·have hs : left < (n : Int) + n' := by omega
  rw [if_pos hs]
  go_enter Tryz.func51, Tryz.ntmps51
  go_wp2_with fail
  refine (szIntS_any _ _ _ _ _ hn h0 h1).mono ?_
  rintro e _ ⟨rfl, rfl⟩
  rw [if_pos ha]
  go_wp2
  go_ret
  exact ⟨rfl, bA bR⟩
 ·by_cases hb : left - (n : Int) - n' < 0
  ·have hs : left < (n : Int) + n' := by omega
   rw [if_pos hs]
   go_enter Tryz.func51, Tryz.ntmps51
   go_wp2_with fail
   refine (szIntS_any _ _ _ _ _ hn h0 h1).mono ?_
   rintro e _ ⟨rfl, rfl⟩
   rw [if_neg (show ¬ left - (n : Int) < 0 by omega)]
   go_wp2_with fail
   refine (szFrameS_any _ _ _ _ _ hn' (by omega) (by omega)).mono ?_
   rintro e _ ⟨rfl, rfl⟩
   rw [if_pos hb]
   go_wp2
   go_ret
   exact ⟨rfl, bA bR⟩
  ·have hs : ¬ left < (n : Int) + n' := by omega
   rw [if_neg hs]
   go_enter Tryz.func51, Tryz.ntmps51
   go_wp2_with fail
   refine (szIntS_any _ _ _ _ _ hn h0 h1).mono ?_
   rintro e _ ⟨rfl, rfl⟩
   rw [if_neg (show ¬ left - (n : Int) < 0 by omega)]
   go_wp2_with fail
   refine (szFrameS_any _ _ _ _ _ hn' (by omega) (by omega)).mono ?_
   rintro e _ ⟨rfl, rfl⟩
   rw [if_neg (Int.not_lt.2 (by omega))]
   go_wp2
   go_ret
   exact ⟨rfl, bA bR⟩
theorem szCache_any (A : Option Addr) (c : Nat) (n : Nat) (left : Int) (x y z : Int) (w : World) (hn : n ≤ 9223372036854775807) (h0 : 0 ≤ left) (h1 : left ≤ 1048576) :
  Calls Tryz.prog 52 #[.agg #[.slice A n c, .int .i64 x], .int .i64 left] w fun r w' => r = .returned (.int .i64 (if left < (n : Int) then -1 else left - n)) ∧ Below w.heap.size w w' := by
 by_cases ha : left < (n : Int)
 ·have ha' : left - (n : Int) < 0 := by omega
  rw [if_pos ha]
  go_enter Tryz.func52, Tryz.ntmps52
  go_wp2_with fail
  refine (szLineS_any _ _ _ _ _ hn h0 h1).mono ?_
  rintro e _ ⟨rfl, rfl⟩
  rw [if_pos ha']
  go_wp2
  go_ret
  exact ⟨rfl, bA bR⟩
 ·have ha' : ¬ left - (n : Int) < 0 := by omega
  rw [if_neg ha]
  go_enter Tryz.func52, Tryz.ntmps52
  go_wp2_with fail
  refine (szLineS_any _ _ _ _ _ hn h0 h1).mono ?_
  rintro e _ ⟨rfl, rfl⟩
  rw [if_neg (show ¬ left - (n : Int) < 0 by omega)]
  go_wp2
  go_ret
  exact ⟨rfl, bA bR⟩
theorem szTags_any (A : Option Addr) (c : Nat) (n : Nat) (left : Int) (x y z : Int) (w : World) (hn : n ≤ 9223372036854775807) (h0 : 0 ≤ left) (h1 : left ≤ 1048576) :
  Calls Tryz.prog 53 #[.agg #[.int .i64 x, .int .i64 y, .int .i64 z, .slice A n c], .int .i64 left] w fun r w' => r = .returned (.int .i64 (if left < (n : Int) then -1 else left - n)) ∧ Below w.heap.size w w' := by
 by_cases ha : left < (n : Int)
 ·have ha' : left - (n : Int) < 0 := by omega
  rw [if_pos ha]
  go_enter Tryz.func53, Tryz.ntmps53
  go_wp2_with fail
  refine (szOwnS_any _ _ _ _ _ hn h0 h1).mono ?_
  rintro e _ ⟨rfl, rfl⟩
  rw [if_pos ha']
  go_wp2
  go_ret
  exact ⟨rfl, bA bR⟩
 ·have ha' : ¬ left - (n : Int) < 0 := by omega
  rw [if_neg ha]
  go_enter Tryz.func53, Tryz.ntmps53
  go_wp2_with fail
  refine (szOwnS_any _ _ _ _ _ hn h0 h1).mono ?_
  rintro e _ ⟨rfl, rfl⟩
  rw [if_neg (show ¬ left - (n : Int) < 0 by omega)]
  go_wp2
  go_ret
  exact ⟨rfl, bA bR⟩
def szOf (a b c d : Nat) : Int := if (1048576 : Int) < a + b + c + d then -1 else 1048576 - a - b - c - d
set_option maxHeartbeats 1000000 in
theorem szMachine_any (A1 A2 A3 A4 : Option Addr) (c1 c2 c3 c4 n1 n2 n3 n4 : Nat) (x y z u s : Int) (w : World) (h1 : n1 ≤ 9223372036854775807) (h2 : n2 ≤ 9223372036854775807) (h3 : n3 ≤ 9223372036854775807) (h4 : n4 ≤ 9223372036854775807) :
  Calls Tryz.prog 13 #[.agg #[.slice A1 n1 c1, .slice A2 n2 c2, .slice A3 n3 c3, .int .i64 x, .int .i64 y, .int .i64 z, .int .i64 u, .slice A4 n4 c4, .int .i64 s], .int .i64 1048576] w fun r w' => r = .returned (.int .i64 (szOf n1 n2 n3 n4)) ∧ Below w.heap.size w w' := by
 by_cases ha : (1048576 : Int) < (n1 : Int) + n2
 ·have hs : szOf n1 n2 n3 n4 = -1 := by unfold szOf; rw [if_pos (by omega)]
  rw [hs]
  go_enter Tryz.func13, Tryz.ntmps13
  go_wp2_with fail
  refine (szTable_any _ _ _ _ _ _ _ _ h1 h2 (by omega) (by omega)).mono ?_
  rintro e w1 ⟨rfl, hb1⟩
  rw [if_pos ha]
  have HB := Hd (bT (bA bR) hb1)
  clear hb1
  go_wp2
  go_ret
  exact ⟨rfl, HB.out⟩
 ·by_cases hb : (1048576 : Int) - n1 - n2 < n3
  ·have hs : szOf n1 n2 n3 n4 = -1 := by unfold szOf; rw [if_pos (by omega)]
   rw [hs]
   go_enter Tryz.func13, Tryz.ntmps13
   go_wp2_with fail
   refine (szTable_any _ _ _ _ _ _ _ _ h1 h2 (by omega) (by omega)).mono ?_
   rintro e w1 ⟨rfl, hb1⟩
   rw [if_neg (Int.not_lt.2 (by omega))]
   have d2 := ((Own.new_ w 33 #[.slice A1 n1 c1, .slice A2 n2 c2, .slice A3 n3 c3, .int .i64 x, .int .i64 y, .int .i64 z, .int .i64 u, .slice A4 n4 c4, .int .i64 s]).below hb1).cell_ 2 (v := .slice A3 n3 c3) rfl
   have d3 := ((Own.new_ w 33 #[.slice A1 n1 c1, .slice A2 n2 c2, .slice A3 n3 c3, .int .i64 x, .int .i64 y, .int .i64 z, .int .i64 u, .slice A4 n4 c4, .int .i64 s]).below hb1).cell_ 3 (v := .int .i64 x) rfl
   have HP := Hd ((Own.new_ w 33 #[.slice A1 n1 c1, .slice A2 n2 c2, .slice A3 n3 c3, .int .i64 x, .int .i64 y, .int .i64 z, .int .i64 u, .slice A4 n4 c4, .int .i64 s]).below hb1)
   have HB := Hd (bT (bA bR) hb1)
   clear hb1
   go_wp2_with fail
   refine (szCache_any _ _ _ _ x 0 0 _ h3 (by omega) (by omega)).mono ?_
   rintro e w2 ⟨rfl, hb2⟩
   rw [if_pos hb]
   have HB2 := Hd (bT HB.out hb2)
   clear hb2
   go_wp2
   go_ret
   exact ⟨rfl, HB2.out⟩
  ·by_cases hc : (1048576 : Int) - n1 - n2 - n3 < n4
   ·have hs : szOf n1 n2 n3 n4 = -1 := by unfold szOf; rw [if_pos (by omega)]
    rw [hs]
    go_enter Tryz.func13, Tryz.ntmps13
    go_wp2_with fail
    refine (szTable_any _ _ _ _ _ _ _ _ h1 h2 (by omega) (by omega)).mono ?_
    rintro e w1 ⟨rfl, hb1⟩
    rw [if_neg (Int.not_lt.2 (by omega))]
    have d2 := ((Own.new_ w 33 #[.slice A1 n1 c1, .slice A2 n2 c2, .slice A3 n3 c3, .int .i64 x, .int .i64 y, .int .i64 z, .int .i64 u, .slice A4 n4 c4, .int .i64 s]).below hb1).cell_ 2 (v := .slice A3 n3 c3) rfl
    have d3 := ((Own.new_ w 33 #[.slice A1 n1 c1, .slice A2 n2 c2, .slice A3 n3 c3, .int .i64 x, .int .i64 y, .int .i64 z, .int .i64 u, .slice A4 n4 c4, .int .i64 s]).below hb1).cell_ 3 (v := .int .i64 x) rfl
    have HP := Hd ((Own.new_ w 33 #[.slice A1 n1 c1, .slice A2 n2 c2, .slice A3 n3 c3, .int .i64 x, .int .i64 y, .int .i64 z, .int .i64 u, .slice A4 n4 c4, .int .i64 s]).below hb1)
    have HB := Hd (bT (bA bR) hb1)
    clear hb1
    go_wp2_with fail
    refine (szCache_any _ _ _ _ x 0 0 _ h3 (by omega) (by omega)).mono ?_
    rintro e w2 ⟨rfl, hb2⟩
    rw [if_neg (Int.not_lt.2 (by omega))]
    have e4 := (HP.out.below hb2).cell_ 4 (v := .int .i64 y) rfl
    have e5 := (HP.out.below hb2).cell_ 5 (v := .int .i64 z) rfl
    have e6 := (HP.out.below hb2).cell_ 6 (v := .int .i64 u) rfl
    have e7 := (HP.out.below hb2).cell_ 7 (v := .slice A4 n4 c4) rfl
    have HB2 := Hd (bT HB.out hb2)
    clear hb2
    go_wp2_with fail
    refine (szTags_any _ _ _ _ y z u _ h4 (by omega) (by omega)).mono ?_
    rintro e w3 ⟨rfl, hb3⟩
    rw [if_pos hc]
    have HB3 := Hd (bT HB2.out hb3)
    clear hb3
    go_wp2
    go_ret
    exact ⟨rfl, HB3.out⟩
   ·have hs : szOf n1 n2 n3 n4 = 1048576 - n1 - n2 - n3 - n4 := by unfold szOf; rw [if_neg (by omega)]
    rw [hs]
    go_enter Tryz.func13, Tryz.ntmps13
    go_wp2_with fail
    refine (szTable_any _ _ _ _ _ _ _ _ h1 h2 (by omega) (by omega)).mono ?_
    rintro e w1 ⟨rfl, hb1⟩
    rw [if_neg (Int.not_lt.2 (by omega))]
    have d2 := ((Own.new_ w 33 #[.slice A1 n1 c1, .slice A2 n2 c2, .slice A3 n3 c3, .int .i64 x, .int .i64 y, .int .i64 z, .int .i64 u, .slice A4 n4 c4, .int .i64 s]).below hb1).cell_ 2 (v := .slice A3 n3 c3) rfl
    have d3 := ((Own.new_ w 33 #[.slice A1 n1 c1, .slice A2 n2 c2, .slice A3 n3 c3, .int .i64 x, .int .i64 y, .int .i64 z, .int .i64 u, .slice A4 n4 c4, .int .i64 s]).below hb1).cell_ 3 (v := .int .i64 x) rfl
    have HP := Hd ((Own.new_ w 33 #[.slice A1 n1 c1, .slice A2 n2 c2, .slice A3 n3 c3, .int .i64 x, .int .i64 y, .int .i64 z, .int .i64 u, .slice A4 n4 c4, .int .i64 s]).below hb1)
    have HB := Hd (bT (bA bR) hb1)
    clear hb1
    go_wp2_with fail
    refine (szCache_any _ _ _ _ x 0 0 _ h3 (by omega) (by omega)).mono ?_
    rintro e w2 ⟨rfl, hb2⟩
    rw [if_neg (Int.not_lt.2 (by omega))]
    have e4 := (HP.out.below hb2).cell_ 4 (v := .int .i64 y) rfl
    have e5 := (HP.out.below hb2).cell_ 5 (v := .int .i64 z) rfl
    have e6 := (HP.out.below hb2).cell_ 6 (v := .int .i64 u) rfl
    have e7 := (HP.out.below hb2).cell_ 7 (v := .slice A4 n4 c4) rfl
    have HB2 := Hd (bT HB.out hb2)
    clear hb2
    go_wp2_with fail
    refine (szTags_any _ _ _ _ y z u _ h4 (by omega) (by omega)).mono ?_
    rintro e w3 ⟨rfl, hb3⟩
    rw [if_neg (Int.not_lt.2 (by omega))]
    have HB3 := Hd (bT HB2.out hb3)
    clear hb3
    go_wp2
    go_ret
    exact ⟨rfl, HB3.out⟩
end Go.Proofs.YtibpnlojlfcpmaaGreatDoor
