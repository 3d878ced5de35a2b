/- A part of the proofs of this seat: Mark5. -/
import Derived.Deep.RegionHeldLaw
import Derived.Test.YtibpnlojlfcpmaaGreatDoorRMark4
set_option linter.unusedVariables false
set_option linter.unusedSimpArgs false
set_option maxRecDepth 1000000
namespace Go.Proofs.YtibpnlojlfcpmaaGreatDoor
open Go.RowKit
theorem xne (b : Bool) : (b != b) = false := by simp
theorem eqOwn_same (o : Int × Int) (w : World) : Calls Tryz.prog 200 #[.agg #[.int .i64 o.1, .int .i64 o.2], .agg #[.int .i64 o.1, .int .i64 o.2]] w fun r w' => r = .returned (.bool true) ∧ Below w.heap.size w w' := by
 go_enter Tryz.func200, Tryz.ntmps200
 go_wp2
 go_ret
 exact ⟨rfl, bA (bA bR)⟩
theorem eqLine_same (x : Ln) (w : World) : Calls Tryz.prog 199 #[lnV x, lnV x] w fun r w' => r = .returned (.bool true) ∧ Below w.heap.size w w' := by
 simp only [lnV]
 have q1 := xne x.v
 have q2 := xne x.w
 go_enter Tryz.func199, Tryz.ntmps199
 go_wp2
 go_ret
 exact ⟨rfl, bA (bA bR)⟩
theorem eqFrame_same (f : Fr) (w : World) : Calls Tryz.prog 198 #[frV f, frV f] w fun r w' => r = .returned (.bool true) ∧ Below w.heap.size w w' := by
 simp only [frV]
 have q1 := xne f.used
 have hb0 : Below w.heap.size w ((w.alloc (.cells #[.bool f.used, .int .i64 f.s, .int .i64 f.p, .int .i64 f.r, .int .i64 f.n] 66)).alloc (.cells #[.bool f.used, .int .i64 f.s, .int .i64 f.p, .int .i64 f.r, .int .i64 f.n] 66)) := bA (bA bR)
 have ha := (Own.new_ w 66 #[.bool f.used, .int .i64 f.s, .int .i64 f.p, .int .i64 f.r, .int .i64 f.n]).alloc (o := .cells #[.bool f.used, .int .i64 f.s, .int .i64 f.p, .int .i64 f.r, .int .i64 f.n] 66)
 have hc := ownAt (W := w.alloc (.cells #[.bool f.used, .int .i64 f.s, .int .i64 f.p, .int .i64 f.r, .int .i64 f.n] 66)) (g := w.heap.size + 1) (t := 66) (cs := #[.bool f.used, .int .i64 f.s, .int .i64 f.p, .int .i64 f.r, .int .i64 f.n]) (by simp)
 generalize hW0 : (w.alloc (.cells #[.bool f.used, .int .i64 f.s, .int .i64 f.p, .int .i64 f.r, .int .i64 f.n] 66)).alloc (.cells #[.bool f.used, .int .i64 f.s, .int .i64 f.p, .int .i64 f.r, .int .i64 f.n] 66) = W0 at hb0 ha hc
 have p0 := ha.cell_ 0 (v := .bool f.used) rfl
 have p1 := ha.cell_ 1 (v := .int .i64 f.s) rfl
 have p2 := ha.cell_ 2 (v := .int .i64 f.p) rfl
 have p3 := ha.cell_ 3 (v := .int .i64 f.r) rfl
 have p4 := ha.cell_ 4 (v := .int .i64 f.n) rfl
 have r0 := hc.cell_ 0 (v := .bool f.used) rfl
 have r1 := hc.cell_ 1 (v := .int .i64 f.s) rfl
 have r2 := hc.cell_ 2 (v := .int .i64 f.p) rfl
 have r3 := hc.cell_ 3 (v := .int .i64 f.r) rfl
 have r4 := hc.cell_ 4 (v := .int .i64 f.n) rfl
 have s1 := ha.lt
 have s2 := hc.lt
 have HA := Hd ha
 have HC := Hd hc
 have HB := Hd hb0
 clear ha hc hb0
 go_enter Tryz.func198, Tryz.ntmps198
 go_wp2
 go_ret
 exact ⟨rfl, bT HB.out (bA (bA bR))⟩
set_option maxHeartbeats 1000000 in
theorem eqOwnS_same (A A' : Option Addr) (c c' : Nat) (l : List (Int × Int)) (w : World) (h : Rs owE w.heap.size w A l) (h' : Rs owE w.heap.size w A' l) (hl : l.length ≤ 9223372036854775807) :
  Calls Tryz.prog 144 #[.slice A l.length c, .slice A' l.length c'] w fun r w' => r = .returned (.bool true) ∧ Below w.heap.size w w' := by
 go_enter Tryz.func144, Tryz.ntmps144
 go_wp2
 go_loopw [5] (fun i wr => ∃ k : Nat, k ≤ l.length ∧ i = .int .i64 k ∧ Below w.heap.size w wr) (fun i _ => l.length - (intOf i).toNat)
 case atStart => exact ⟨0, by omega, rfl, bR⟩
 case round =>
  obtain ⟨k, hk, rfl, hb⟩ := hrel
  by_cases hlt : k < l.length
  ·obtain ⟨a, ea⟩ : ∃ a, l[k]? = some a := ⟨_, List.getElem?_eq_getElem hlt⟩
   obtain ⟨b, o, rfl, hbb, c0, c1⟩ := (h.now (Nat.le_refl _) hb).ow ea
   obtain ⟨b', o', rfl, hbb', d0, d1⟩ := (h'.now (Nat.le_refl _) hb).ow ea
   clear ea
   go_wp2
   have q0 := xcell (w := wr) c0 (by simp; omega)
   have z0 := xcell (w := wr) d0 (by simp; omega)
   have q1 := xcell (w := wr) c1 (by simp; omega)
   have z1 := xcell (w := wr) d1 (by simp; omega)
   refine wp_region_ext (by kernel_rfl) (by kernel_rfl) ?_
   repeat (go_big_quiet_step ((go_at_call 200; exact ext_call (eqOwn_same _ _))))
   refine wpQuiet_nil ?_
   intro _ hw'
   obtain ⟨⟨wq, hq⟩, hw''⟩ := hw'
   subst hw''
   try dsimp only
   go_wp2
   go_roundw
   case rel => exact ⟨k + 1, by omega, by go_num, bT hb hq⟩
   case measure => simp [intOf]; omega
  ·go_wp2
   go_ret
   exact ⟨rfl, hb⟩
set_option maxHeartbeats 1000000 in
theorem eqLineS_same (A A' : Option Addr) (c c' : Nat) (l : List (Ln)) (w : World) (h : Rs lnE w.heap.size w A l) (h' : Rs lnE w.heap.size w A' l) (hl : l.length ≤ 9223372036854775807) :
  Calls Tryz.prog 143 #[.slice A l.length c, .slice A' l.length c'] w fun r w' => r = .returned (.bool true) ∧ Below w.heap.size w w' := by
 go_enter Tryz.func143, Tryz.ntmps143
 go_wp2
 go_loopw [5] (fun i wr => ∃ k : Nat, k ≤ l.length ∧ i = .int .i64 k ∧ Below w.heap.size w wr) (fun i _ => l.length - (intOf i).toNat)
 case atStart => exact ⟨0, by omega, rfl, bR⟩
 case round =>
  obtain ⟨k, hk, rfl, hb⟩ := hrel
  by_cases hlt : k < l.length
  ·obtain ⟨a, ea⟩ : ∃ a, l[k]? = some a := ⟨_, List.getElem?_eq_getElem hlt⟩
   obtain ⟨b, o, rfl, hbb, c0, c1, c2, c3, c4, c5⟩ := (h.now (Nat.le_refl _) hb).ln ea
   obtain ⟨b', o', rfl, hbb', d0, d1, d2, d3, d4, d5⟩ := (h'.now (Nat.le_refl _) hb).ln ea
   clear ea
   go_wp2
   have q0 := xcell (w := wr) c0 (by simp; omega)
   have z0 := xcell (w := wr) d0 (by simp; omega)
   have q1 := xcell (w := wr) c1 (by simp; omega)
   have z1 := xcell (w := wr) d1 (by simp; omega)
   have q2 := xcell (w := wr) c2 (by simp; omega)
   have z2 := xcell (w := wr) d2 (by simp; omega)
   have q3 := xcell (w := wr) c3 (by simp; omega)
   have z3 := xcell (w := wr) d3 (by simp; omega)
   have q4 := xcell (w := wr) c4 (by simp; omega)
   have z4 := xcell (w := wr) d4 (by simp; omega)
   have q5 := xcell (w := wr) c5 (by simp; omega)
   have z5 := xcell (w := wr) d5 (by simp; omega)
   refine wp_region_ext (by kernel_rfl) (by kernel_rfl) ?_
   repeat (go_big_quiet_step ((go_at_call 199; exact ext_call (eqLine_same _ _))))
   refine wpQuiet_nil ?_
   intro _ hw'
   obtain ⟨⟨wq, hq⟩, hw''⟩ := hw'
   subst hw''
   try dsimp only
   go_wp2
   go_roundw
   case rel => exact ⟨k + 1, by omega, by go_num, bT hb hq⟩
   case measure => simp [intOf]; omega
  ·go_wp2
   go_ret
   exact ⟨rfl, hb⟩
set_option maxHeartbeats 1000000 in
theorem eqFrameS_same (A A' : Option Addr) (c c' : Nat) (l : List (Fr)) (w : World) (h : Rs frE w.heap.size w A l) (h' : Rs frE w.heap.size w A' l) (hl : l.length ≤ 9223372036854775807) :
  Calls Tryz.prog 142 #[.slice A l.length c, .slice A' l.length c'] w fun r w' => r = .returned (.bool true) ∧ Below w.heap.size w w' := by
 go_enter Tryz.func142, Tryz.ntmps142
 go_wp2
 go_loopw [5] (fun i wr => ∃ k : Nat, k ≤ l.length ∧ i = .int .i64 k ∧ Below w.heap.size w wr) (fun i _ => l.length - (intOf i).toNat)
 case atStart => exact ⟨0, by omega, rfl, bR⟩
 case round =>
  obtain ⟨k, hk, rfl, hb⟩ := hrel
  by_cases hlt : k < l.length
  ·obtain ⟨a, ea⟩ : ∃ a, l[k]? = some a := ⟨_, List.getElem?_eq_getElem hlt⟩
   obtain ⟨b, o, rfl, hbb, c0, c1, c2, c3, c4⟩ := (h.now (Nat.le_refl _) hb).fr ea
   obtain ⟨b', o', rfl, hbb', d0, d1, d2, d3, d4⟩ := (h'.now (Nat.le_refl _) hb).fr ea
   clear ea
   go_wp2
   have q0 := xcell (w := wr) c0 (by simp; omega)
   have z0 := xcell (w := wr) d0 (by simp; omega)
   have q1 := xcell (w := wr) c1 (by simp; omega)
   have z1 := xcell (w := wr) d1 (by simp; omega)
   have q2 := xcell (w := wr) c2 (by simp; omega)
   have z2 := xcell (w := wr) d2 (by simp; omega)
   have q3 := xcell (w := wr) c3 (by simp; omega)
   have z3 := xcell (w := wr) d3 (by simp; omega)
   have q4 := xcell (w := wr) c4 (by simp; omega)
   have z4 := xcell (w := wr) d4 (by simp; omega)
   refine wp_region_ext (by kernel_rfl) (by kernel_rfl) ?_
   repeat (go_big_quiet_step ((go_at_call 198; exact ext_call (eqFrame_same _ _))))
   refine wpQuiet_nil ?_
   intro _ hw'
   obtain ⟨⟨wq, hq⟩, hw''⟩ := hw'
   subst hw''
   try dsimp only
   go_wp2
   go_roundw
   case rel => exact ⟨k + 1, by omega, by go_num, bT hb hq⟩
   case measure => simp [intOf]; omega
  ·go_wp2
   go_ret
   exact ⟨rfl, hb⟩
set_option maxHeartbeats 1000000 in
theorem eqIntS_same (A A' : Option Addr) (c c' : Nat) (l : List (Int)) (w : World) (h : Rs intE w.heap.size w A l) (h' : Rs intE w.heap.size w A' l) (hl : l.length ≤ 9223372036854775807) :
  Calls Tryz.prog 48 #[.slice A l.length c, .slice A' l.length c'] w fun r w' => r = .returned (.bool true) ∧ Below w.heap.size w w' := by
 go_enter Tryz.func48, Tryz.ntmps48
 go_wp2
 go_loopw [5] (fun i wr => ∃ k : Nat, k ≤ l.length ∧ i = .int .i64 k ∧ Below w.heap.size w wr) (fun i _ => l.length - (intOf i).toNat)
 case atStart => exact ⟨0, by omega, rfl, bR⟩
 case round =>
  obtain ⟨k, hk, rfl, hb⟩ := hrel
  by_cases hlt : k < l.length
  ·obtain ⟨a, ea⟩ : ∃ a, l[k]? = some a := ⟨_, List.getElem?_eq_getElem hlt⟩
   obtain ⟨b, o, rfl, hbb, c0⟩ := (h.now (Nat.le_refl _) hb).i1 ea
   obtain ⟨b', o', rfl, hbb', d0⟩ := (h'.now (Nat.le_refl _) hb).i1 ea
   clear ea
   go_wp2
   go_quiet (fail)
   go_wp2
   go_roundw
   case rel => exact ⟨k + 1, by omega, by go_num, bDN hb⟩
   case measure => simp [intOf]; omega
  ·go_wp2
   go_ret
   exact ⟨rfl, hb⟩
end Go.Proofs.YtibpnlojlfcpmaaGreatDoor
