/- A part of the proofs of this seat: Mark4, Mark5, Mark6. -/
import Derived.Test.YtfbnokjdkhcgoaaGreatDoorVMark3
set_option linter.unusedVariables false
set_option linter.unusedSimpArgs false
set_option maxRecDepth 1000000
namespace Go.Proofs.YtfbnokjdkhcgoaaGreatDoor
open Go.RowKit
theorem szTable_any (A A' : Option Addr) (c c' : Nat) (n n' : Nat) (left : Int) (w : World) (hn : n ≤ 9223372036854775807) (hn' : n' ≤ 9223372036854775807) (h0 : 0 ≤ left) (h1 : left ≤ 1048576) :
  Calls Tryz.prog 106 #[.agg #[.slice A n c, .slice A' n' c'], .int .i64 left] w fun r w' => r = .returned (.int .i64 (if left < (n : Int) + n' then -1 else left - n - n')) ∧ Below w.heap.size w w' := by
 by_cases ha : left - (n : Int) < 0
 ·have hs : left < (n : Int) + n' := by omega
  rw [if_pos hs]
  go_enter Tryz.func106, Tryz.ntmps106
  go_wp2_with fail
  refine (szIntS_any _ _ _ _ _ hn h0 h1).mono ?_
  rintro e _ ⟨rfl, rfl⟩
  rw [if_pos ha]
  go_wp2
  go_ret
  exact ⟨rfl, bA bR⟩
 ·by_cases hb : left - (n : Int) - n' < 0
  ·have hs : left < (n : Int) + n' := by omega
   rw [if_pos hs]
   go_enter Tryz.func106, Tryz.ntmps106
   go_wp2_with fail
   refine (szIntS_any _ _ _ _ _ hn h0 h1).mono ?_
   rintro e _ ⟨rfl, rfl⟩
   rw [if_neg (show ¬ left - (n : Int) < 0 by omega)]
   go_wp2_with fail
   refine (szFrameS_any _ _ _ _ _ hn' (by omega) (by omega)).mono ?_
   rintro e _ ⟨rfl, rfl⟩
   rw [if_pos hb]
   go_wp2
   go_ret
   exact ⟨rfl, bA bR⟩
  ·have hs : ¬ left < (n : Int) + n' := by omega
   rw [if_neg hs]
   go_enter Tryz.func106, Tryz.ntmps106
   go_wp2_with fail
   refine (szIntS_any _ _ _ _ _ hn h0 h1).mono ?_
   rintro e _ ⟨rfl, rfl⟩
   rw [if_neg (show ¬ left - (n : Int) < 0 by omega)]
   go_wp2_with fail
   refine (szFrameS_any _ _ _ _ _ hn' (by omega) (by omega)).mono ?_
   rintro e _ ⟨rfl, rfl⟩
   rw [if_neg (Int.not_lt.2 (by omega))]
   go_wp2
   go_ret
   exact ⟨rfl, bA bR⟩
theorem szCache_any (A : Option Addr) (c : Nat) (n : Nat) (left : Int) (x y z : Int) (w : World) (hn : n ≤ 9223372036854775807) (h0 : 0 ≤ left) (h1 : left ≤ 1048576) :
  Calls Tryz.prog 107 #[.agg #[.slice A n c, .int .i64 x], .int .i64 left] w fun r w' => r = .returned (.int .i64 (if left < (n : Int) then -1 else left - n)) ∧ Below w.heap.size w w' := by
 by_cases ha : left < (n : Int)
 ·have ha' : left - (n : Int) < 0 := by omega
  rw [if_pos ha]
  go_enter Tryz.func107, Tryz.ntmps107
  go_wp2_with fail
  refine (szLineS_any _ _ _ _ _ hn h0 h1).mono ?_
  rintro e _ ⟨rfl, rfl⟩
  rw [if_pos ha']
  go_wp2
  go_ret
  exact ⟨rfl, bA bR⟩
 ·have ha' : ¬ left - (n : Int) < 0 := by omega
  rw [if_neg ha]
  go_enter Tryz.func107, Tryz.ntmps107
  go_wp2_with fail
  refine (szLineS_any _ _ _ _ _ hn h0 h1).mono ?_
  rintro e _ ⟨rfl, rfl⟩
  rw [if_neg (show ¬ left - (n : Int) < 0 by omega)]
  go_wp2
  go_ret
  exact ⟨rfl, bA bR⟩
theorem szTags_any (A : Option Addr) (c : Nat) (n : Nat) (left : Int) (x y z : Int) (w : World) (hn : n ≤ 9223372036854775807) (h0 : 0 ≤ left) (h1 : left ≤ 1048576) :
  Calls Tryz.prog 108 #[.agg #[.int .i64 x, .int .i64 y, .int .i64 z, .slice A n c], .int .i64 left] w fun r w' => r = .returned (.int .i64 (if left < (n : Int) then -1 else left - n)) ∧ Below w.heap.size w w' := by
 by_cases ha : left < (n : Int)
 ·have ha' : left - (n : Int) < 0 := by omega
  rw [if_pos ha]
  go_enter Tryz.func108, Tryz.ntmps108
  go_wp2_with fail
  refine (szOwnS_any _ _ _ _ _ hn h0 h1).mono ?_
  rintro e _ ⟨rfl, rfl⟩
  rw [if_pos ha']
  go_wp2
  go_ret
  exact ⟨rfl, bA bR⟩
 ·have ha' : ¬ left - (n : Int) < 0 := by omega
  rw [if_neg ha]
  go_enter Tryz.func108, Tryz.ntmps108
  go_wp2_with fail
  refine (szOwnS_any _ _ _ _ _ hn h0 h1).mono ?_
  rintro e _ ⟨rfl, rfl⟩
  rw [if_neg (show ¬ left - (n : Int) < 0 by omega)]
  go_wp2
  go_ret
  exact ⟨rfl, bA bR⟩
def szOf (a b c d : Nat) : Int := if (1048576 : Int) < a + b + c + d then -1 else 1048576 - a - b - c - d
set_option maxHeartbeats 1000000 in
theorem szMachine_any (A1 A2 A3 A4 : Option Addr) (c1 c2 c3 c4 n1 n2 n3 n4 : Nat) (x y z u s : Int) (w : World) (h1 : n1 ≤ 9223372036854775807) (h2 : n2 ≤ 9223372036854775807) (h3 : n3 ≤ 9223372036854775807) (h4 : n4 ≤ 9223372036854775807) :
  Calls Tryz.prog 60 #[.agg #[.slice A1 n1 c1, .slice A2 n2 c2, .slice A3 n3 c3, .int .i64 x, .int .i64 y, .int .i64 z, .int .i64 u, .slice A4 n4 c4, .int .i64 s], .int .i64 1048576] w fun r w' => r = .returned (.int .i64 (szOf n1 n2 n3 n4)) ∧ Below w.heap.size w w' := by
 by_cases ha : (1048576 : Int) < (n1 : Int) + n2
 ·have hs : szOf n1 n2 n3 n4 = -1 := by unfold szOf; rw [if_pos (by omega)]
  rw [hs]
  go_enter Tryz.func60, Tryz.ntmps60
  go_wp2_with fail
  refine (szTable_any _ _ _ _ _ _ _ _ h1 h2 (by omega) (by omega)).mono ?_
  rintro e w1 ⟨rfl, hb1⟩
  rw [if_pos ha]
  have HB := Hd (bT (bA bR) hb1)
  clear hb1
  go_wp2
  go_ret
  exact ⟨rfl, HB.out⟩
 ·by_cases hb : (1048576 : Int) - n1 - n2 < n3
  ·have hs : szOf n1 n2 n3 n4 = -1 := by unfold szOf; rw [if_pos (by omega)]
   rw [hs]
   go_enter Tryz.func60, Tryz.ntmps60
   go_wp2_with fail
   refine (szTable_any _ _ _ _ _ _ _ _ h1 h2 (by omega) (by omega)).mono ?_
   rintro e w1 ⟨rfl, hb1⟩
   rw [if_neg (Int.not_lt.2 (by omega))]
   have d2 := ((Own.new_ w 65 #[.slice A1 n1 c1, .slice A2 n2 c2, .slice A3 n3 c3, .int .i64 x, .int .i64 y, .int .i64 z, .int .i64 u, .slice A4 n4 c4, .int .i64 s]).below hb1).cell_ 2 (v := .slice A3 n3 c3) rfl
   have d3 := ((Own.new_ w 65 #[.slice A1 n1 c1, .slice A2 n2 c2, .slice A3 n3 c3, .int .i64 x, .int .i64 y, .int .i64 z, .int .i64 u, .slice A4 n4 c4, .int .i64 s]).below hb1).cell_ 3 (v := .int .i64 x) rfl
   have HP := Hd ((Own.new_ w 65 #[.slice A1 n1 c1, .slice A2 n2 c2, .slice A3 n3 c3, .int .i64 x, .int .i64 y, .int .i64 z, .int .i64 u, .slice A4 n4 c4, .int .i64 s]).below hb1)
   have HB := Hd (bT (bA bR) hb1)
   clear hb1
   go_wp2_with fail
   refine (szCache_any _ _ _ _ x 0 0 _ h3 (by omega) (by omega)).mono ?_
   rintro e w2 ⟨rfl, hb2⟩
   rw [if_pos hb]
   have HB2 := Hd (bT HB.out hb2)
   clear hb2
   go_wp2
   go_ret
   exact ⟨rfl, HB2.out⟩
  ·by_cases hc : (1048576 : Int) - n1 - n2 - n3 < n4
   ·have hs : szOf n1 n2 n3 n4 = -1 := by unfold szOf; rw [if_pos (by omega)]
    rw [hs]
    go_enter Tryz.func60, Tryz.ntmps60
    go_wp2_with fail
    refine (szTable_any _ _ _ _ _ _ _ _ h1 h2 (by omega) (by omega)).mono ?_
    rintro e w1 ⟨rfl, hb1⟩
    rw [if_neg (Int.not_lt.2 (by omega))]
    have d2 := ((Own.new_ w 65 #[.slice A1 n1 c1, .slice A2 n2 c2, .slice A3 n3 c3, .int .i64 x, .int .i64 y, .int .i64 z, .int .i64 u, .slice A4 n4 c4, .int .i64 s]).below hb1).cell_ 2 (v := .slice A3 n3 c3) rfl
    have d3 := ((Own.new_ w 65 #[.slice A1 n1 c1, .slice A2 n2 c2, .slice A3 n3 c3, .int .i64 x, .int .i64 y, .int .i64 z, .int .i64 u, .slice A4 n4 c4, .int .i64 s]).below hb1).cell_ 3 (v := .int .i64 x) rfl
    have HP := Hd ((Own.new_ w 65 #[.slice A1 n1 c1, .slice A2 n2 c2, .slice A3 n3 c3, .int .i64 x, .int .i64 y, .int .i64 z, .int .i64 u, .slice A4 n4 c4, .int .i64 s]).below hb1)
    have HB := Hd (bT (bA bR) hb1)
    clear hb1
    go_wp2_with fail
    refine (szCache_any _ _ _ _ x 0 0 _ h3 (by omega) (by omega)).mono ?_
    rintro e w2 ⟨rfl, hb2⟩
    rw [if_neg (Int.not_lt.2 (by omega))]
    have e4 := (HP.out.below hb2).cell_ 4 (v := .int .i64 y) rfl
    have e5 := (HP.out.below hb2).cell_ 5 (v := .int .i64 z) rfl
    have e6 := (HP.out.below hb2).cell_ 6 (v := .int .i64 u) rfl
    have e7 := (HP.out.below hb2).cell_ 7 (v := .slice A4 n4 c4) rfl
    have HB2 := Hd (bT HB.out hb2)
    clear hb2
    go_wp2_with fail
    refine (szTags_any _ _ _ _ y z u _ h4 (by omega) (by omega)).mono ?_
    rintro e w3 ⟨rfl, hb3⟩
    rw [if_pos hc]
    have HB3 := Hd (bT HB2.out hb3)
    clear hb3
    go_wp2
    go_ret
    exact ⟨rfl, HB3.out⟩
   ·have hs : szOf n1 n2 n3 n4 = 1048576 - n1 - n2 - n3 - n4 := by unfold szOf; rw [if_neg (by omega)]
    rw [hs]
    go_enter Tryz.func60, Tryz.ntmps60
    go_wp2_with fail
    refine (szTable_any _ _ _ _ _ _ _ _ h1 h2 (by omega) (by omega)).mono ?_
    rintro e w1 ⟨rfl, hb1⟩
    rw [if_neg (Int.not_lt.2 (by omega))]
    have d2 := ((Own.new_ w 65 #[.slice A1 n1 c1, .slice A2 n2 c2, .slice A3 n3 c3, .int .i64 x, .int .i64 y, .int .i64 z, .int .i64 u, .slice A4 n4 c4, .int .i64 s]).below hb1).cell_ 2 (v := .slice A3 n3 c3) rfl
    have d3 := ((Own.new_ w 65 #[.slice A1 n1 c1, .slice A2 n2 c2, .slice A3 n3 c3, .int .i64 x, .int .i64 y, .int .i64 z, .int .i64 u, .slice A4 n4 c4, .int .i64 s]).below hb1).cell_ 3 (v := .int .i64 x) rfl
    have HP := Hd ((Own.new_ w 65 #[.slice A1 n1 c1, .slice A2 n2 c2, .slice A3 n3 c3, .int .i64 x, .int .i64 y, .int .i64 z, .int .i64 u, .slice A4 n4 c4, .int .i64 s]).below hb1)
    have HB := Hd (bT (bA bR) hb1)
    clear hb1
    go_wp2_with fail
    refine (szCache_any _ _ _ _ x 0 0 _ h3 (by omega) (by omega)).mono ?_
    rintro e w2 ⟨rfl, hb2⟩
    rw [if_neg (Int.not_lt.2 (by omega))]
    have e4 := (HP.out.below hb2).cell_ 4 (v := .int .i64 y) rfl
    have e5 := (HP.out.below hb2).cell_ 5 (v := .int .i64 z) rfl
    have e6 := (HP.out.below hb2).cell_ 6 (v := .int .i64 u) rfl
    have e7 := (HP.out.below hb2).cell_ 7 (v := .slice A4 n4 c4) rfl
    have HB2 := Hd (bT HB.out hb2)
    clear hb2
    go_wp2_with fail
    refine (szTags_any _ _ _ _ y z u _ h4 (by omega) (by omega)).mono ?_
    rintro e w3 ⟨rfl, hb3⟩
    rw [if_neg (Int.not_lt.2 (by omega))]
    have HB3 := Hd (bT HB2.out hb3)
    clear hb3
    go_wp2
    go_ret
    exact ⟨rfl, HB3.out⟩
theorem xne (b : Bool) : (b != b) = false := by simp
theorem eqOwn_same (o : Int × Int) (w : World) : Calls Tryz.prog 220 #[.agg #[.int .i64 o.1, .int .i64 o.2], .agg #[.int .i64 o.1, .int .i64 o.2]] w fun r w' => r = .returned (.bool true) ∧ Below w.heap.size w w' := by
 go_enter Tryz.func220, Tryz.ntmps220
 go_wp2
 go_ret
 exact ⟨rfl, bA (bA bR)⟩
theorem eqLine_same (x : Ln) (w : World) : Calls Tryz.prog 219 #[lnV x, lnV x] w fun r w' => r = .returned (.bool true) ∧ Below w.heap.size w w' := by
 simp only [lnV]
 have q1 := xne x.v
 have q2 := xne x.w
 go_enter Tryz.func219, Tryz.ntmps219
 go_wp2
 go_ret
 exact ⟨rfl, bA (bA bR)⟩
theorem eqFrame_same (f : Fr) (w : World) : Calls Tryz.prog 218 #[frV f, frV f] w fun r w' => r = .returned (.bool true) ∧ Below w.heap.size w w' := by
 simp only [frV]
 have q1 := xne f.used
 have hb0 : Below w.heap.size w ((w.alloc (.cells #[.bool f.used, .int .i64 f.s, .int .i64 f.p, .int .i64 f.r, .int .i64 f.n] 80)).alloc (.cells #[.bool f.used, .int .i64 f.s, .int .i64 f.p, .int .i64 f.r, .int .i64 f.n] 80)) := bA (bA bR)
 have ha := (Own.new_ w 80 #[.bool f.used, .int .i64 f.s, .int .i64 f.p, .int .i64 f.r, .int .i64 f.n]).alloc (o := .cells #[.bool f.used, .int .i64 f.s, .int .i64 f.p, .int .i64 f.r, .int .i64 f.n] 80)
 have hc := ownAt (W := w.alloc (.cells #[.bool f.used, .int .i64 f.s, .int .i64 f.p, .int .i64 f.r, .int .i64 f.n] 80)) (g := w.heap.size + 1) (t := 80) (cs := #[.bool f.used, .int .i64 f.s, .int .i64 f.p, .int .i64 f.r, .int .i64 f.n]) (by simp)
 generalize hW0 : (w.alloc (.cells #[.bool f.used, .int .i64 f.s, .int .i64 f.p, .int .i64 f.r, .int .i64 f.n] 80)).alloc (.cells #[.bool f.used, .int .i64 f.s, .int .i64 f.p, .int .i64 f.r, .int .i64 f.n] 80) = W0 at hb0 ha hc
 have p0 := ha.cell_ 0 (v := .bool f.used) rfl
 have p1 := ha.cell_ 1 (v := .int .i64 f.s) rfl
 have p2 := ha.cell_ 2 (v := .int .i64 f.p) rfl
 have p3 := ha.cell_ 3 (v := .int .i64 f.r) rfl
 have p4 := ha.cell_ 4 (v := .int .i64 f.n) rfl
 have r0 := hc.cell_ 0 (v := .bool f.used) rfl
 have r1 := hc.cell_ 1 (v := .int .i64 f.s) rfl
 have r2 := hc.cell_ 2 (v := .int .i64 f.p) rfl
 have r3 := hc.cell_ 3 (v := .int .i64 f.r) rfl
 have r4 := hc.cell_ 4 (v := .int .i64 f.n) rfl
 have s1 := ha.lt
 have s2 := hc.lt
 have HA := Hd ha
 have HC := Hd hc
 have HB := Hd hb0
 clear ha hc hb0
 go_enter Tryz.func218, Tryz.ntmps218
 go_wp2
 go_ret
 exact ⟨rfl, bT HB.out (bA (bA bR))⟩
set_option maxHeartbeats 1000000 in
theorem eqOwnS_same (A A' : Option Addr) (c c' : Nat) (l : List (Int × Int)) (w : World) (h : Rs owE w.heap.size w A l) (h' : Rs owE w.heap.size w A' l) (hl : l.length ≤ 9223372036854775807) :
  Calls Tryz.prog 180 #[.slice A l.length c, .slice A' l.length c'] w fun r w' => r = .returned (.bool true) ∧ Below w.heap.size w w' := by
 go_enter Tryz.func180, Tryz.ntmps180
 go_wp2
 go_loopw [5] (fun i wr => ∃ k : Nat, k ≤ l.length ∧ i = .int .i64 k ∧ Below w.heap.size w wr) (fun i _ => l.length - (intOf i).toNat)
 case atStart => exact ⟨0, by omega, rfl, bR⟩
 case round =>
  obtain ⟨k, hk, rfl, hb⟩ := hrel
  by_cases hlt : k < l.length
  ·obtain ⟨a, ea⟩ : ∃ a, l[k]? = some a := ⟨_, List.getElem?_eq_getElem hlt⟩
   obtain ⟨b, o, rfl, hbb, c0, c1⟩ := (h.now (Nat.le_refl _) hb).ow ea
   obtain ⟨b', o', rfl, hbb', d0, d1⟩ := (h'.now (Nat.le_refl _) hb).ow ea
   clear ea
   go_wp2
   have q0 := xcell (w := wr) c0 (by simp; omega)
   have z0 := xcell (w := wr) d0 (by simp; omega)
   have q1 := xcell (w := wr) c1 (by simp; omega)
   have z1 := xcell (w := wr) d1 (by simp; omega)
   refine wp_region_ext (by kernel_rfl) (by kernel_rfl) ?_
   repeat (go_big_quiet_step ((go_at_call 220; exact ext_call (eqOwn_same _ _))))
   refine wpQuiet_nil ?_
   intro _ hw'
   obtain ⟨⟨wq, hq⟩, hw''⟩ := hw'
   subst hw''
   try dsimp only
   go_wp2
   go_roundw
   case rel => exact ⟨k + 1, by omega, by go_num, bT hb hq⟩
   case measure => simp [intOf]; omega
  ·go_wp2
   go_ret
   exact ⟨rfl, hb⟩
set_option maxHeartbeats 1000000 in
theorem eqLineS_same (A A' : Option Addr) (c c' : Nat) (l : List (Ln)) (w : World) (h : Rs lnE w.heap.size w A l) (h' : Rs lnE w.heap.size w A' l) (hl : l.length ≤ 9223372036854775807) :
  Calls Tryz.prog 179 #[.slice A l.length c, .slice A' l.length c'] w fun r w' => r = .returned (.bool true) ∧ Below w.heap.size w w' := by
 go_enter Tryz.func179, Tryz.ntmps179
 go_wp2
 go_loopw [5] (fun i wr => ∃ k : Nat, k ≤ l.length ∧ i = .int .i64 k ∧ Below w.heap.size w wr) (fun i _ => l.length - (intOf i).toNat)
 case atStart => exact ⟨0, by omega, rfl, bR⟩
 case round =>
  obtain ⟨k, hk, rfl, hb⟩ := hrel
  by_cases hlt : k < l.length
  ·obtain ⟨a, ea⟩ : ∃ a, l[k]? = some a := ⟨_, List.getElem?_eq_getElem hlt⟩
   obtain ⟨b, o, rfl, hbb, c0, c1, c2, c3, c4, c5⟩ := (h.now (Nat.le_refl _) hb).ln ea
   obtain ⟨b', o', rfl, hbb', d0, d1, d2, d3, d4, d5⟩ := (h'.now (Nat.le_refl _) hb).ln ea
   clear ea
   go_wp2
   have q0 := xcell (w := wr) c0 (by simp; omega)
   have z0 := xcell (w := wr) d0 (by simp; omega)
   have q1 := xcell (w := wr) c1 (by simp; omega)
   have z1 := xcell (w := wr) d1 (by simp; omega)
   have q2 := xcell (w := wr) c2 (by simp; omega)
   have z2 := xcell (w := wr) d2 (by simp; omega)
   have q3 := xcell (w := wr) c3 (by simp; omega)
   have z3 := xcell (w := wr) d3 (by simp; omega)
   have q4 := xcell (w := wr) c4 (by simp; omega)
   have z4 := xcell (w := wr) d4 (by simp; omega)
   have q5 := xcell (w := wr) c5 (by simp; omega)
   have z5 := xcell (w := wr) d5 (by simp; omega)
   refine wp_region_ext (by kernel_rfl) (by kernel_rfl) ?_
   repeat (go_big_quiet_step ((go_at_call 219; exact ext_call (eqLine_same _ _))))
   refine wpQuiet_nil ?_
   intro _ hw'
   obtain ⟨⟨wq, hq⟩, hw''⟩ := hw'
   subst hw''
   try dsimp only
   go_wp2
   go_roundw
   case rel => exact ⟨k + 1, by omega, by go_num, bT hb hq⟩
   case measure => simp [intOf]; omega
  ·go_wp2
   go_ret
   exact ⟨rfl, hb⟩
set_option maxHeartbeats 1000000 in
theorem eqFrameS_same (A A' : Option Addr) (c c' : Nat) (l : List (Fr)) (w : World) (h : Rs frE w.heap.size w A l) (h' : Rs frE w.heap.size w A' l) (hl : l.length ≤ 9223372036854775807) :
  Calls Tryz.prog 178 #[.slice A l.length c, .slice A' l.length c'] w fun r w' => r = .returned (.bool true) ∧ Below w.heap.size w w' := by
 go_enter Tryz.func178, Tryz.ntmps178
 go_wp2
 go_loopw [5] (fun i wr => ∃ k : Nat, k ≤ l.length ∧ i = .int .i64 k ∧ Below w.heap.size w wr) (fun i _ => l.length - (intOf i).toNat)
 case atStart => exact ⟨0, by omega, rfl, bR⟩
 case round =>
  obtain ⟨k, hk, rfl, hb⟩ := hrel
  by_cases hlt : k < l.length
  ·obtain ⟨a, ea⟩ : ∃ a, l[k]? = some a := ⟨_, List.getElem?_eq_getElem hlt⟩
   obtain ⟨b, o, rfl, hbb, c0, c1, c2, c3, c4⟩ := (h.now (Nat.le_refl _) hb).fr ea
   obtain ⟨b', o', rfl, hbb', d0, d1, d2, d3, d4⟩ := (h'.now (Nat.le_refl _) hb).fr ea
   clear ea
   go_wp2
   have q0 := xcell (w := wr) c0 (by simp; omega)
   have z0 := xcell (w := wr) d0 (by simp; omega)
   have q1 := xcell (w := wr) c1 (by simp; omega)
   have z1 := xcell (w := wr) d1 (by simp; omega)
   have q2 := xcell (w := wr) c2 (by simp; omega)
   have z2 := xcell (w := wr) d2 (by simp; omega)
   have q3 := xcell (w := wr) c3 (by simp; omega)
   have z3 := xcell (w := wr) d3 (by simp; omega)
   have q4 := xcell (w := wr) c4 (by simp; omega)
   have z4 := xcell (w := wr) d4 (by simp; omega)
   refine wp_region_ext (by kernel_rfl) (by kernel_rfl) ?_
   repeat (go_big_quiet_step ((go_at_call 218; exact ext_call (eqFrame_same _ _))))
   refine wpQuiet_nil ?_
   intro _ hw'
   obtain ⟨⟨wq, hq⟩, hw''⟩ := hw'
   subst hw''
   try dsimp only
   go_wp2
   go_roundw
   case rel => exact ⟨k + 1, by omega, by go_num, bT hb hq⟩
   case measure => simp [intOf]; omega
  ·go_wp2
   go_ret
   exact ⟨rfl, hb⟩
set_option maxHeartbeats 1000000 in
theorem eqIntS_same (A A' : Option Addr) (c c' : Nat) (l : List (Int)) (w : World) (h : Rs intE w.heap.size w A l) (h' : Rs intE w.heap.size w A' l) (hl : l.length ≤ 9223372036854775807) :
  Calls Tryz.prog 25 #[.slice A l.length c, .slice A' l.length c'] w fun r w' => r = .returned (.bool true) ∧ Below w.heap.size w w' := by
 go_enter Tryz.func25, Tryz.ntmps25
 go_wp2
 go_loopw [5] (fun i wr => ∃ k : Nat, k ≤ l.length ∧ i = .int .i64 k ∧ Below w.heap.size w wr) (fun i _ => l.length - (intOf i).toNat)
 case atStart => exact ⟨0, by omega, rfl, bR⟩
 case round =>
  obtain ⟨k, hk, rfl, hb⟩ := hrel
  by_cases hlt : k < l.length
  ·obtain ⟨a, ea⟩ : ∃ a, l[k]? = some a := ⟨_, List.getElem?_eq_getElem hlt⟩
   obtain ⟨b, o, rfl, hbb, c0⟩ := (h.now (Nat.le_refl _) hb).i1 ea
   obtain ⟨b', o', rfl, hbb', d0⟩ := (h'.now (Nat.le_refl _) hb).i1 ea
   clear ea
   go_wp2
   go_quiet (fail)
   go_wp2
   go_roundw
   case rel => exact ⟨k + 1, by omega, by go_num, bDN hb⟩
   case measure => simp [intOf]; omega
  ·go_wp2
   go_ret
   exact ⟨rfl, hb⟩
theorem max63 {n c : Nat} (h : n ≤ c) (hm : c ≤ maxLen) : n ≤ 9223372036854775807 := by simp only [maxLen] at hm; omega
set_option maxHeartbeats 2000000 in
theorem eqCache_same (v1 v2 : Value) (c : Ca) (w : World) (h1 : SlR lnE w v1 c.ls) (h2 : SlR lnE w v2 c.ls) :
  Calls Tryz.prog 113 #[.agg #[v1, .int .i64 c.hand], .agg #[v2, .int .i64 c.hand]] w fun r w' => r = .returned (.bool true) ∧ Below w.heap.size w w' := by
 obtain ⟨A0, a0, rfl, ha0, hA0', hA0⟩ := h1
 obtain ⟨B0, b0, rfl, hb0', hB0', hB0⟩ := h2
 have hp0 := (Own.new_ w 29 #[.slice A0 c.ls.length a0, .int .i64 c.hand]).alloc (o := .cells #[.slice B0 c.ls.length b0, .int .i64 c.hand] 29)
 have hq0 := ownAt (W := (w.alloc (.cells #[.slice A0 c.ls.length a0, .int .i64 c.hand] 29))) (g := w.heap.size + 1) (t := 29) (cs := #[.slice B0 c.ls.length b0, .int .i64 c.hand]) (by simp)
 have hb0 : Below w.heap.size w ((w.alloc (.cells #[.slice A0 c.ls.length a0, .int .i64 c.hand] 29)).alloc (.cells #[.slice B0 c.ls.length b0, .int .i64 c.hand] 29)) := bA (bA bR)
 generalize hW0 : ((w.alloc (.cells #[.slice A0 c.ls.length a0, .int .i64 c.hand] 29)).alloc (.cells #[.slice B0 c.ls.length b0, .int .i64 c.hand] 29)) = W0 at hp0 hq0 hb0
 have HP0 := Hd hp0
 have HQ0 := Hd hq0
 have HB0 := Hd hb0
 clear hp0 hq0 hb0
 have p0 := HP0.out.cell_ 0 (v := .slice A0 c.ls.length a0) rfl
 have q0 := HQ0.out.cell_ 0 (v := .slice B0 c.ls.length b0) rfl
 have p1 := HP0.out.cell_ 1 (v := .int .i64 c.hand) rfl
 have q1 := HQ0.out.cell_ 1 (v := .int .i64 c.hand) rfl
 go_enter Tryz.func113, Tryz.ntmps113
 go_wp2_with fail
 refine (eqLineS_same A0 B0 _ _ c.ls _ (hA0.now (Nat.le_refl _) HB0.out) (hB0.now (Nat.le_refl _) HB0.out) (max63 ha0 hA0')).mono ?_
 rintro e W1 ⟨rfl, hb_⟩
 clear p0 q0 p1 q1
 have hp1 := HP0.out.below hb_
 have hq1 := HQ0.out.below hb_
 have hb1 := bT HB0.out hb_
 clear hb_
 have HP1 := Hd hp1
 have HQ1 := Hd hq1
 have HB1 := Hd hb1
 clear hp1 hq1 hb1
 have p0 := HP1.out.cell_ 0 (v := .slice A0 c.ls.length a0) rfl
 have q0 := HQ1.out.cell_ 0 (v := .slice B0 c.ls.length b0) rfl
 have p1 := HP1.out.cell_ 1 (v := .int .i64 c.hand) rfl
 have q1 := HQ1.out.cell_ 1 (v := .int .i64 c.hand) rfl
 go_wp2
 go_ret
 exact ⟨rfl, HB1.out⟩
set_option maxHeartbeats 2000000 in
theorem eqTags_same (v1 v2 : Value) (g : Tg) (w : World) (h1 : SlR owE w v1 g.os) (h2 : SlR owE w v2 g.os) :
  Calls Tryz.prog 114 #[.agg #[.int .i64 g.count, .int .i64 g.next, .int .i64 g.round, v1], .agg #[.int .i64 g.count, .int .i64 g.next, .int .i64 g.round, v2]] w fun r w' => r = .returned (.bool true) ∧ Below w.heap.size w w' := by
 obtain ⟨A0, a0, rfl, ha0, hA0', hA0⟩ := h1
 obtain ⟨B0, b0, rfl, hb0', hB0', hB0⟩ := h2
 have hp0 := (Own.new_ w 32 #[.int .i64 g.count, .int .i64 g.next, .int .i64 g.round, .slice A0 g.os.length a0]).alloc (o := .cells #[.int .i64 g.count, .int .i64 g.next, .int .i64 g.round, .slice B0 g.os.length b0] 32)
 have hq0 := ownAt (W := (w.alloc (.cells #[.int .i64 g.count, .int .i64 g.next, .int .i64 g.round, .slice A0 g.os.length a0] 32))) (g := w.heap.size + 1) (t := 32) (cs := #[.int .i64 g.count, .int .i64 g.next, .int .i64 g.round, .slice B0 g.os.length b0]) (by simp)
 have hb0 : Below w.heap.size w ((w.alloc (.cells #[.int .i64 g.count, .int .i64 g.next, .int .i64 g.round, .slice A0 g.os.length a0] 32)).alloc (.cells #[.int .i64 g.count, .int .i64 g.next, .int .i64 g.round, .slice B0 g.os.length b0] 32)) := bA (bA bR)
 generalize hW0 : ((w.alloc (.cells #[.int .i64 g.count, .int .i64 g.next, .int .i64 g.round, .slice A0 g.os.length a0] 32)).alloc (.cells #[.int .i64 g.count, .int .i64 g.next, .int .i64 g.round, .slice B0 g.os.length b0] 32)) = W0 at hp0 hq0 hb0
 have HP0 := Hd hp0
 have HQ0 := Hd hq0
 have HB0 := Hd hb0
 clear hp0 hq0 hb0
 have p0 := HP0.out.cell_ 0 (v := .int .i64 g.count) rfl
 have q0 := HQ0.out.cell_ 0 (v := .int .i64 g.count) rfl
 have p1 := HP0.out.cell_ 1 (v := .int .i64 g.next) rfl
 have q1 := HQ0.out.cell_ 1 (v := .int .i64 g.next) rfl
 have p2 := HP0.out.cell_ 2 (v := .int .i64 g.round) rfl
 have q2 := HQ0.out.cell_ 2 (v := .int .i64 g.round) rfl
 have p3 := HP0.out.cell_ 3 (v := .slice A0 g.os.length a0) rfl
 have q3 := HQ0.out.cell_ 3 (v := .slice B0 g.os.length b0) rfl
 go_enter Tryz.func114, Tryz.ntmps114
 go_wp2_with fail
 refine (eqOwnS_same A0 B0 _ _ g.os _ (hA0.now (Nat.le_refl _) HB0.out) (hB0.now (Nat.le_refl _) HB0.out) (max63 ha0 hA0')).mono ?_
 rintro e W1 ⟨rfl, hb_⟩
 clear p0 q0 p1 q1 p2 q2 p3 q3
 have hp1 := HP0.out.below hb_
 have hq1 := HQ0.out.below hb_
 have hb1 := bT HB0.out hb_
 clear hb_
 have HP1 := Hd hp1
 have HQ1 := Hd hq1
 have HB1 := Hd hb1
 clear hp1 hq1 hb1
 have p0 := HP1.out.cell_ 0 (v := .int .i64 g.count) rfl
 have q0 := HQ1.out.cell_ 0 (v := .int .i64 g.count) rfl
 have p1 := HP1.out.cell_ 1 (v := .int .i64 g.next) rfl
 have q1 := HQ1.out.cell_ 1 (v := .int .i64 g.next) rfl
 have p2 := HP1.out.cell_ 2 (v := .int .i64 g.round) rfl
 have q2 := HQ1.out.cell_ 2 (v := .int .i64 g.round) rfl
 have p3 := HP1.out.cell_ 3 (v := .slice A0 g.os.length a0) rfl
 have q3 := HQ1.out.cell_ 3 (v := .slice B0 g.os.length b0) rfl
 go_wp2
 go_ret
 exact ⟨rfl, HB1.out⟩
set_option maxHeartbeats 2000000 in
theorem eqTable_same (v1 v2 v3 v4 : Value) (t : Tab) (w : World) (h1 : TaR w v1 v2 t) (h2 : TaR w v3 v4 t) :
  Calls Tryz.prog 112 #[.agg #[v1, v2], .agg #[v3, v4]] w fun r w' => r = .returned (.bool true) ∧ Below w.heap.size w w' := by
 obtain ⟨A0, a0, rfl, ha0, hA0', hA0⟩ := h1.b
 obtain ⟨B0, b0, rfl, hb0', hB0', hB0⟩ := h2.b
 obtain ⟨A1, a1, rfl, ha1, hA1', hA1⟩ := h1.f
 obtain ⟨B1, b1, rfl, hb1', hB1', hB1⟩ := h2.f
 have hp0 := (Own.new_ w 26 #[.slice A0 t.bs.length a0, .slice A1 t.fs.length a1]).alloc (o := .cells #[.slice B0 t.bs.length b0, .slice B1 t.fs.length b1] 26)
 have hq0 := ownAt (W := (w.alloc (.cells #[.slice A0 t.bs.length a0, .slice A1 t.fs.length a1] 26))) (g := w.heap.size + 1) (t := 26) (cs := #[.slice B0 t.bs.length b0, .slice B1 t.fs.length b1]) (by simp)
 have hb0 : Below w.heap.size w ((w.alloc (.cells #[.slice A0 t.bs.length a0, .slice A1 t.fs.length a1] 26)).alloc (.cells #[.slice B0 t.bs.length b0, .slice B1 t.fs.length b1] 26)) := bA (bA bR)
 generalize hW0 : ((w.alloc (.cells #[.slice A0 t.bs.length a0, .slice A1 t.fs.length a1] 26)).alloc (.cells #[.slice B0 t.bs.length b0, .slice B1 t.fs.length b1] 26)) = W0 at hp0 hq0 hb0
 have HP0 := Hd hp0
 have HQ0 := Hd hq0
 have HB0 := Hd hb0
 clear hp0 hq0 hb0
 have p0 := HP0.out.cell_ 0 (v := .slice A0 t.bs.length a0) rfl
 have q0 := HQ0.out.cell_ 0 (v := .slice B0 t.bs.length b0) rfl
 have p1 := HP0.out.cell_ 1 (v := .slice A1 t.fs.length a1) rfl
 have q1 := HQ0.out.cell_ 1 (v := .slice B1 t.fs.length b1) rfl
 go_enter Tryz.func112, Tryz.ntmps112
 go_wp2_with fail
 refine (eqIntS_same A0 B0 _ _ t.bs _ (hA0.now (Nat.le_refl _) HB0.out) (hB0.now (Nat.le_refl _) HB0.out) (max63 ha0 hA0')).mono ?_
 rintro e W1 ⟨rfl, hb_⟩
 clear p0 q0 p1 q1
 have hp1 := HP0.out.below hb_
 have hq1 := HQ0.out.below hb_
 have hb1 := bT HB0.out hb_
 clear hb_
 have HP1 := Hd hp1
 have HQ1 := Hd hq1
 have HB1 := Hd hb1
 clear hp1 hq1 hb1
 have p0 := HP1.out.cell_ 0 (v := .slice A0 t.bs.length a0) rfl
 have q0 := HQ1.out.cell_ 0 (v := .slice B0 t.bs.length b0) rfl
 have p1 := HP1.out.cell_ 1 (v := .slice A1 t.fs.length a1) rfl
 have q1 := HQ1.out.cell_ 1 (v := .slice B1 t.fs.length b1) rfl
 go_wp2_with fail
 refine (eqFrameS_same A1 B1 _ _ t.fs _ (hA1.now (Nat.le_refl _) HB1.out) (hB1.now (Nat.le_refl _) HB1.out) (max63 ha1 hA1')).mono ?_
 rintro e W2 ⟨rfl, hb_⟩
 clear p0 q0 p1 q1
 have hp2 := HP1.out.below hb_
 have hq2 := HQ1.out.below hb_
 have hb2 := bT HB1.out hb_
 clear hb_
 have HP2 := Hd hp2
 have HQ2 := Hd hq2
 have HB2 := Hd hb2
 clear hp2 hq2 hb2
 have p0 := HP2.out.cell_ 0 (v := .slice A0 t.bs.length a0) rfl
 have q0 := HQ2.out.cell_ 0 (v := .slice B0 t.bs.length b0) rfl
 have p1 := HP2.out.cell_ 1 (v := .slice A1 t.fs.length a1) rfl
 have q1 := HQ2.out.cell_ 1 (v := .slice B1 t.fs.length b1) rfl
 go_wp2
 go_ret
 exact ⟨rfl, HB2.out⟩
set_option maxHeartbeats 2000000 in
theorem eqMachine_same (v1 v2 v3 v4 u1 u2 u3 u4 : Value) (m : Ma) (w : World) (h1 : MaR w v1 v2 v3 v4 m) (h2 : MaR w u1 u2 u3 u4 m) :
  Calls Tryz.prog 64 #[.agg #[v1, v2, v3, .int .i64 m.c.hand, .int .i64 m.g.count, .int .i64 m.g.next, .int .i64 m.g.round, v4, .int .i64 m.sp], .agg #[u1, u2, u3, .int .i64 m.c.hand, .int .i64 m.g.count, .int .i64 m.g.next, .int .i64 m.g.round, u4, .int .i64 m.sp]] w fun r w' => r = .returned (.bool true) ∧ Below w.heap.size w w' := by
 obtain ⟨A0, a0, rfl, ha0, hA0', hA0⟩ := h1.t.b
 obtain ⟨B0, b0, rfl, hb0', hB0', hB0⟩ := h2.t.b
 obtain ⟨A1, a1, rfl, ha1, hA1', hA1⟩ := h1.t.f
 obtain ⟨B1, b1, rfl, hb1', hB1', hB1⟩ := h2.t.f
 obtain ⟨A2, a2, rfl, ha2, hA2', hA2⟩ := h1.l
 obtain ⟨B2, b2, rfl, hb2', hB2', hB2⟩ := h2.l
 obtain ⟨A3, a3, rfl, ha3, hA3', hA3⟩ := h1.o
 obtain ⟨B3, b3, rfl, hb3', hB3', hB3⟩ := h2.o
 have hp0 := (Own.new_ w 34 #[.slice A0 m.t.bs.length a0, .slice A1 m.t.fs.length a1, .slice A2 m.c.ls.length a2, .int .i64 m.c.hand, .int .i64 m.g.count, .int .i64 m.g.next, .int .i64 m.g.round, .slice A3 m.g.os.length a3, .int .i64 m.sp]).alloc (o := .cells #[.slice B0 m.t.bs.length b0, .slice B1 m.t.fs.length b1, .slice B2 m.c.ls.length b2, .int .i64 m.c.hand, .int .i64 m.g.count, .int .i64 m.g.next, .int .i64 m.g.round, .slice B3 m.g.os.length b3, .int .i64 m.sp] 34)
 have hq0 := ownAt (W := (w.alloc (.cells #[.slice A0 m.t.bs.length a0, .slice A1 m.t.fs.length a1, .slice A2 m.c.ls.length a2, .int .i64 m.c.hand, .int .i64 m.g.count, .int .i64 m.g.next, .int .i64 m.g.round, .slice A3 m.g.os.length a3, .int .i64 m.sp] 34))) (g := w.heap.size + 1) (t := 34) (cs := #[.slice B0 m.t.bs.length b0, .slice B1 m.t.fs.length b1, .slice B2 m.c.ls.length b2, .int .i64 m.c.hand, .int .i64 m.g.count, .int .i64 m.g.next, .int .i64 m.g.round, .slice B3 m.g.os.length b3, .int .i64 m.sp]) (by simp)
 have hb0 : Below w.heap.size w ((w.alloc (.cells #[.slice A0 m.t.bs.length a0, .slice A1 m.t.fs.length a1, .slice A2 m.c.ls.length a2, .int .i64 m.c.hand, .int .i64 m.g.count, .int .i64 m.g.next, .int .i64 m.g.round, .slice A3 m.g.os.length a3, .int .i64 m.sp] 34)).alloc (.cells #[.slice B0 m.t.bs.length b0, .slice B1 m.t.fs.length b1, .slice B2 m.c.ls.length b2, .int .i64 m.c.hand, .int .i64 m.g.count, .int .i64 m.g.next, .int .i64 m.g.round, .slice B3 m.g.os.length b3, .int .i64 m.sp] 34)) := bA (bA bR)
 generalize hW0 : ((w.alloc (.cells #[.slice A0 m.t.bs.length a0, .slice A1 m.t.fs.length a1, .slice A2 m.c.ls.length a2, .int .i64 m.c.hand, .int .i64 m.g.count, .int .i64 m.g.next, .int .i64 m.g.round, .slice A3 m.g.os.length a3, .int .i64 m.sp] 34)).alloc (.cells #[.slice B0 m.t.bs.length b0, .slice B1 m.t.fs.length b1, .slice B2 m.c.ls.length b2, .int .i64 m.c.hand, .int .i64 m.g.count, .int .i64 m.g.next, .int .i64 m.g.round, .slice B3 m.g.os.length b3, .int .i64 m.sp] 34)) = W0 at hp0 hq0 hb0
 have HP0 := Hd hp0
 have HQ0 := Hd hq0
 have HB0 := Hd hb0
 clear hp0 hq0 hb0
 have p0 := HP0.out.cell_ 0 (v := .slice A0 m.t.bs.length a0) rfl
 have q0 := HQ0.out.cell_ 0 (v := .slice B0 m.t.bs.length b0) rfl
 have p1 := HP0.out.cell_ 1 (v := .slice A1 m.t.fs.length a1) rfl
 have q1 := HQ0.out.cell_ 1 (v := .slice B1 m.t.fs.length b1) rfl
 have p2 := HP0.out.cell_ 2 (v := .slice A2 m.c.ls.length a2) rfl
 have q2 := HQ0.out.cell_ 2 (v := .slice B2 m.c.ls.length b2) rfl
 have p3 := HP0.out.cell_ 3 (v := .int .i64 m.c.hand) rfl
 have q3 := HQ0.out.cell_ 3 (v := .int .i64 m.c.hand) rfl
 have p4 := HP0.out.cell_ 4 (v := .int .i64 m.g.count) rfl
 have q4 := HQ0.out.cell_ 4 (v := .int .i64 m.g.count) rfl
 have p5 := HP0.out.cell_ 5 (v := .int .i64 m.g.next) rfl
 have q5 := HQ0.out.cell_ 5 (v := .int .i64 m.g.next) rfl
 have p6 := HP0.out.cell_ 6 (v := .int .i64 m.g.round) rfl
 have q6 := HQ0.out.cell_ 6 (v := .int .i64 m.g.round) rfl
 have p7 := HP0.out.cell_ 7 (v := .slice A3 m.g.os.length a3) rfl
 have q7 := HQ0.out.cell_ 7 (v := .slice B3 m.g.os.length b3) rfl
 have p8 := HP0.out.cell_ 8 (v := .int .i64 m.sp) rfl
 have q8 := HQ0.out.cell_ 8 (v := .int .i64 m.sp) rfl
 go_enter Tryz.func64, Tryz.ntmps64
 go_wp2_with fail
 refine (eqTable_same _ _ _ _ m.t _ ⟨⟨A0, a0, rfl, ha0, hA0', hA0.now (Nat.le_refl _) HB0.out⟩, ⟨A1, a1, rfl, ha1, hA1', hA1.now (Nat.le_refl _) HB0.out⟩⟩ ⟨⟨B0, b0, rfl, hb0', hB0', hB0.now (Nat.le_refl _) HB0.out⟩, ⟨B1, b1, rfl, hb1', hB1', hB1.now (Nat.le_refl _) HB0.out⟩⟩).mono ?_
 rintro e W1 ⟨rfl, hb_⟩
 clear p0 q0 p1 q1 p2 q2 p3 q3 p4 q4 p5 q5 p6 q6 p7 q7 p8 q8
 have hp1 := HP0.out.below hb_
 have hq1 := HQ0.out.below hb_
 have hb1 := bT HB0.out hb_
 clear hb_
 have HP1 := Hd hp1
 have HQ1 := Hd hq1
 have HB1 := Hd hb1
 clear hp1 hq1 hb1
 have p0 := HP1.out.cell_ 0 (v := .slice A0 m.t.bs.length a0) rfl
 have q0 := HQ1.out.cell_ 0 (v := .slice B0 m.t.bs.length b0) rfl
 have p1 := HP1.out.cell_ 1 (v := .slice A1 m.t.fs.length a1) rfl
 have q1 := HQ1.out.cell_ 1 (v := .slice B1 m.t.fs.length b1) rfl
 have p2 := HP1.out.cell_ 2 (v := .slice A2 m.c.ls.length a2) rfl
 have q2 := HQ1.out.cell_ 2 (v := .slice B2 m.c.ls.length b2) rfl
 have p3 := HP1.out.cell_ 3 (v := .int .i64 m.c.hand) rfl
 have q3 := HQ1.out.cell_ 3 (v := .int .i64 m.c.hand) rfl
 have p4 := HP1.out.cell_ 4 (v := .int .i64 m.g.count) rfl
 have q4 := HQ1.out.cell_ 4 (v := .int .i64 m.g.count) rfl
 have p5 := HP1.out.cell_ 5 (v := .int .i64 m.g.next) rfl
 have q5 := HQ1.out.cell_ 5 (v := .int .i64 m.g.next) rfl
 have p6 := HP1.out.cell_ 6 (v := .int .i64 m.g.round) rfl
 have q6 := HQ1.out.cell_ 6 (v := .int .i64 m.g.round) rfl
 have p7 := HP1.out.cell_ 7 (v := .slice A3 m.g.os.length a3) rfl
 have q7 := HQ1.out.cell_ 7 (v := .slice B3 m.g.os.length b3) rfl
 have p8 := HP1.out.cell_ 8 (v := .int .i64 m.sp) rfl
 have q8 := HQ1.out.cell_ 8 (v := .int .i64 m.sp) rfl
 go_wp2_with fail
 refine (eqCache_same _ _ m.c _ ⟨A2, a2, rfl, ha2, hA2', hA2.now (Nat.le_refl _) HB1.out⟩ ⟨B2, b2, rfl, hb2', hB2', hB2.now (Nat.le_refl _) HB1.out⟩).mono ?_
 rintro e W2 ⟨rfl, hb_⟩
 clear p0 q0 p1 q1 p2 q2 p3 q3 p4 q4 p5 q5 p6 q6 p7 q7 p8 q8
 have hp2 := HP1.out.below hb_
 have hq2 := HQ1.out.below hb_
 have hb2 := bT HB1.out hb_
 clear hb_
 have HP2 := Hd hp2
 have HQ2 := Hd hq2
 have HB2 := Hd hb2
 clear hp2 hq2 hb2
 have p0 := HP2.out.cell_ 0 (v := .slice A0 m.t.bs.length a0) rfl
 have q0 := HQ2.out.cell_ 0 (v := .slice B0 m.t.bs.length b0) rfl
 have p1 := HP2.out.cell_ 1 (v := .slice A1 m.t.fs.length a1) rfl
 have q1 := HQ2.out.cell_ 1 (v := .slice B1 m.t.fs.length b1) rfl
 have p2 := HP2.out.cell_ 2 (v := .slice A2 m.c.ls.length a2) rfl
 have q2 := HQ2.out.cell_ 2 (v := .slice B2 m.c.ls.length b2) rfl
 have p3 := HP2.out.cell_ 3 (v := .int .i64 m.c.hand) rfl
 have q3 := HQ2.out.cell_ 3 (v := .int .i64 m.c.hand) rfl
 have p4 := HP2.out.cell_ 4 (v := .int .i64 m.g.count) rfl
 have q4 := HQ2.out.cell_ 4 (v := .int .i64 m.g.count) rfl
 have p5 := HP2.out.cell_ 5 (v := .int .i64 m.g.next) rfl
 have q5 := HQ2.out.cell_ 5 (v := .int .i64 m.g.next) rfl
 have p6 := HP2.out.cell_ 6 (v := .int .i64 m.g.round) rfl
 have q6 := HQ2.out.cell_ 6 (v := .int .i64 m.g.round) rfl
 have p7 := HP2.out.cell_ 7 (v := .slice A3 m.g.os.length a3) rfl
 have q7 := HQ2.out.cell_ 7 (v := .slice B3 m.g.os.length b3) rfl
 have p8 := HP2.out.cell_ 8 (v := .int .i64 m.sp) rfl
 have q8 := HQ2.out.cell_ 8 (v := .int .i64 m.sp) rfl
 go_wp2_with fail
 refine (eqTags_same _ _ m.g _ ⟨A3, a3, rfl, ha3, hA3', hA3.now (Nat.le_refl _) HB2.out⟩ ⟨B3, b3, rfl, hb3', hB3', hB3.now (Nat.le_refl _) HB2.out⟩).mono ?_
 rintro e W3 ⟨rfl, hb_⟩
 clear p0 q0 p1 q1 p2 q2 p3 q3 p4 q4 p5 q5 p6 q6 p7 q7 p8 q8
 have hp3 := HP2.out.below hb_
 have hq3 := HQ2.out.below hb_
 have hb3 := bT HB2.out hb_
 clear hb_
 have HP3 := Hd hp3
 have HQ3 := Hd hq3
 have HB3 := Hd hb3
 clear hp3 hq3 hb3
 have p0 := HP3.out.cell_ 0 (v := .slice A0 m.t.bs.length a0) rfl
 have q0 := HQ3.out.cell_ 0 (v := .slice B0 m.t.bs.length b0) rfl
 have p1 := HP3.out.cell_ 1 (v := .slice A1 m.t.fs.length a1) rfl
 have q1 := HQ3.out.cell_ 1 (v := .slice B1 m.t.fs.length b1) rfl
 have p2 := HP3.out.cell_ 2 (v := .slice A2 m.c.ls.length a2) rfl
 have q2 := HQ3.out.cell_ 2 (v := .slice B2 m.c.ls.length b2) rfl
 have p3 := HP3.out.cell_ 3 (v := .int .i64 m.c.hand) rfl
 have q3 := HQ3.out.cell_ 3 (v := .int .i64 m.c.hand) rfl
 have p4 := HP3.out.cell_ 4 (v := .int .i64 m.g.count) rfl
 have q4 := HQ3.out.cell_ 4 (v := .int .i64 m.g.count) rfl
 have p5 := HP3.out.cell_ 5 (v := .int .i64 m.g.next) rfl
 have q5 := HQ3.out.cell_ 5 (v := .int .i64 m.g.next) rfl
 have p6 := HP3.out.cell_ 6 (v := .int .i64 m.g.round) rfl
 have q6 := HQ3.out.cell_ 6 (v := .int .i64 m.g.round) rfl
 have p7 := HP3.out.cell_ 7 (v := .slice A3 m.g.os.length a3) rfl
 have q7 := HQ3.out.cell_ 7 (v := .slice B3 m.g.os.length b3) rfl
 have p8 := HP3.out.cell_ 8 (v := .int .i64 m.sp) rfl
 have q8 := HQ3.out.cell_ 8 (v := .int .i64 m.sp) rfl
 go_wp2
 go_ret
 exact ⟨rfl, HB3.out⟩
end Go.Proofs.YtfbnokjdkhcgoaaGreatDoor
