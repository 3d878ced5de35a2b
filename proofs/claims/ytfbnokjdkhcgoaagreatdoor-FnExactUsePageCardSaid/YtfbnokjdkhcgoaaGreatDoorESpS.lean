/- A part of the proofs of this seat: SpS. -/
import Derived.Test.YtfbnokjdkhcgoaaGreatDoorEFind
import Derived.Test.YtfbnokjdkhcgoaaGreatDoorECaS
set_option linter.unusedVariables false
set_option linter.unusedSimpArgs false
set_option maxRecDepth 1000000
namespace Go.Proofs.YtfbnokjdkhcgoaaGreatDoor
open Go.RowKit
theorem sKeyFor_any (s p : Int) (w : World) : Calls Tryz.prog 52 #[.int .i64 s, .int .i64 p] w fun r w' => r = .returned (.agg #[.int .i64 (keyI s p), .int .i64 p]) ∧ Below w.heap.size w w' := by
 by_cases h : 128 ≤ p
 ·have H : Hid (keyI s p = 0) := by show _ = _; unfold keyI; rw [if_pos h]
  go_enter Tryz.func52, Tryz.ntmps52
  go_wp2
  refine bodyPost_ret (v := .agg #[.int .i64 (keyI s p), .int .i64 p]) (by simp [results, Tryz.results52, go_sem, H.out]) rfl ⟨rfl, ?_⟩
  repeat first | exact bR | refine bS ?_ (by simp) | refine bA ?_
 ·have H : Hid (keyI s p = s) := by show _ = _; unfold keyI; rw [if_neg h]
  go_enter Tryz.func52, Tryz.ntmps52
  go_wp2
  refine bodyPost_ret (v := .agg #[.int .i64 (keyI s p), .int .i64 p]) (by simp [results, Tryz.results52, go_sem, H.out]) rfl ⟨rfl, ?_⟩
  repeat first | exact bR | refine bS ?_ (by simp) | refine bA ?_
set_option maxHeartbeats 1000000 in
theorem l5Find_any (vo : Value) (g : Tg) (s : Int) (w : World) (hT : SlR owE w vo g.os) :
  Calls Tryz.prog 133 #[.agg #[.int .i64 g.count, .int .i64 g.next, .int .i64 g.round, vo], .int .i64 s] w fun r w' => r = .returned (.int .i64 (ownI g.os s)) ∧ Below w.heap.size w w' := by
 obtain ⟨A, cc, rfl, hbc, hbm, hL⟩ := hT
 have hfm2 : g.os.length ≤ 9223372036854775807 := by unfold maxLen at hbm; omega
 have HL := Hd hL
 have hbx := Own.new_ w 32 #[.int .i64 g.count, .int .i64 g.next, .int .i64 g.round, .slice A g.os.length cc]
 have hbz : Below w.heap.size w (w.alloc (.cells #[.int .i64 g.count, .int .i64 g.next, .int .i64 g.round, .slice A g.os.length cc] 32)) := bA bR
 have hsz0 : (w.alloc (.cells #[.int .i64 g.count, .int .i64 g.next, .int .i64 g.round, .slice A g.os.length cc] 32)).heap.size = w.heap.size + 1 := by simp
 generalize hW : w.alloc (.cells #[.int .i64 g.count, .int .i64 g.next, .int .i64 g.round, .slice A g.os.length cc] 32) = W0 at hbx hbz hsz0
 have q0 := hbx.cell_ 0 (v := .int .i64 g.count) rfl
 have q1 := hbx.cell_ 1 (v := .int .i64 g.next) rfl
 have q2 := hbx.cell_ 2 (v := .int .i64 g.round) rfl
 have q3 := hbx.cell_ 3 (v := .slice A g.os.length cc) rfl
 have HBX := Hd hbx
 clear hL hbx
 clear q0 q1 q2 q3 hsz0
 go_enter Tryz.func133, Tryz.ntmps133
 go_wp2
 go_loopw [5] (fun u wr => ∃ k : Nat, k ≤ g.os.length ∧ u = .int .i64 k ∧ Hid (∀ (j : Nat) (q : Int × Int), j < k → g.os[j]? = some q → ¬ q.1 = s) ∧ Own wr w.heap.size 32 #[.int .i64 g.count, .int .i64 g.next, .int .i64 g.round, .slice A g.os.length cc] ∧ Below w.heap.size w wr) (fun u _ => g.os.length - (intOf u).toNat)
 case atStart => exact ⟨0, by omega, rfl, (fun j q h => absurd h (by omega)), HBX.out, hbz⟩
 case round =>
  obtain ⟨k, hk, rfl, hacc, hbox, hbi⟩ := hrel
  have q3 := hbox.cell_ 3 (v := .slice A g.os.length cc) rfl
  by_cases hlt : k < g.os.length
  ·obtain ⟨o, eo⟩ : ∃ o, g.os[k]? = some o := ⟨_, List.getElem?_eq_getElem hlt⟩
   obtain ⟨b, ob, rfl, hbb, d0, d1⟩ := (HL.out.below hbi).ow eo
   have HBOX := Hd hbox
   clear hbox
   by_cases ht : o.1 = s
   ·have H := Hd (own_at eo hacc.out ht)
    clear eo
    go_wp2
    go_ret
    exact ⟨by rw [H.out]; rfl, hbi⟩
   ·have HACC := Hd (own_go eo hacc.out ht)
    clear eo
    go_wp2
    go_roundw
    case rel => exact ⟨k + 1, by omega, by go_num, HACC, HBOX.out, hbi⟩
    case measure => simp [intOf]; omega
  ·have H := Hd (own_none (Nat.le_of_not_lt hlt) hacc.out)
   clear hbox
   go_wp2
   go_ret
   exact ⟨by rw [H.out]; rfl, hbi⟩
set_option maxHeartbeats 4000000 in
theorem sTagsValid_any (vo : Value) (g : Tg) (w : World) (hT : SlR owE w vo g.os) :
  Calls Tryz.prog 132 #[.agg #[.int .i64 g.count, .int .i64 g.next, .int .i64 g.round, vo]] w fun r w' => r = .returned (.bool (tgv g)) ∧ Below w.heap.size w w' := by
 obtain ⟨A, cc, rfl, hbc, hbm, hL⟩ := hT
 have hfm2 : g.os.length ≤ 9223372036854775807 := by unfold maxLen at hbm; omega
 have HL := Hd hL
 have hbx := Own.new_ w 32 #[.int .i64 g.count, .int .i64 g.next, .int .i64 g.round, .slice A g.os.length cc]
 have hbz : Below w.heap.size w (w.alloc (.cells #[.int .i64 g.count, .int .i64 g.next, .int .i64 g.round, .slice A g.os.length cc] 32)) := bA bR
 have hsz0 : (w.alloc (.cells #[.int .i64 g.count, .int .i64 g.next, .int .i64 g.round, .slice A g.os.length cc] 32)).heap.size = w.heap.size + 1 := by simp
 generalize hW : w.alloc (.cells #[.int .i64 g.count, .int .i64 g.next, .int .i64 g.round, .slice A g.os.length cc] 32) = W0 at hbx hbz hsz0
 have q0 := hbx.cell_ 0 (v := .int .i64 g.count) rfl
 have q1 := hbx.cell_ 1 (v := .int .i64 g.next) rfl
 have q2 := hbx.cell_ 2 (v := .int .i64 g.round) rfl
 have q3 := hbx.cell_ 3 (v := .slice A g.os.length cc) rfl
 have HBX := Hd hbx
 clear hL hbx
 by_cases h1 : g.count < 1
 ·go_enter Tryz.func132, Tryz.ntmps132
  have HE : Hid (tgv g = false) := tgv_no fun h => by have := (tgv_parts h).1; omega
  go_wp2
  go_ret
  exact ⟨by rw [HE.out]; rfl, hbz⟩
 by_cases h2 : 8 < g.count
 ·go_enter Tryz.func132, Tryz.ntmps132
  have HE : Hid (tgv g = false) := tgv_no fun h => by have := (tgv_parts h).1; omega
  go_wp2
  go_ret
  exact ⟨by rw [HE.out]; rfl, hbz⟩
 by_cases h3 : g.next < 0
 ·go_enter Tryz.func132, Tryz.ntmps132
  have HE : Hid (tgv g = false) := tgv_no fun h => by have := (tgv_parts h).1; omega
  go_wp2
  go_ret
  exact ⟨by rw [HE.out]; rfl, hbz⟩
 by_cases h4 : g.count < g.next
 ·go_enter Tryz.func132, Tryz.ntmps132
  have HE : Hid (tgv g = false) := tgv_no fun h => by have := (tgv_parts h).1; omega
  go_wp2
  go_ret
  exact ⟨by rw [HE.out]; rfl, hbz⟩
 by_cases h5 : g.round < 0
 ·go_enter Tryz.func132, Tryz.ntmps132
  have HE : Hid (tgv g = false) := tgv_no fun h => by have := (tgv_parts h).1; omega
  go_wp2
  go_ret
  exact ⟨by rw [HE.out]; rfl, hbz⟩
 by_cases h6 : 1000000 < g.round
 ·go_enter Tryz.func132, Tryz.ntmps132
  have HE : Hid (tgv g = false) := tgv_no fun h => by have := (tgv_parts h).1; omega
  go_wp2
  go_ret
  exact ⟨by rw [HE.out]; rfl, hbz⟩
 by_cases h7 : g.next < (g.os.length : Int)
 ·go_enter Tryz.func132, Tryz.ntmps132
  have HE : Hid (tgv g = false) := tgv_no fun h => by have := tok_len (tgv_parts h).2 (tgv_parts h).1.2.2.1; omega
  go_wp2
  go_ret
  exact ⟨by rw [HE.out]; rfl, hbz⟩
 have HGB : Hid (tgb g = true) := tgb_iff.2 (by omega)
 go_enter Tryz.func132, Tryz.ntmps132
 go_wp2
 clear q0 q1 q2 q3
 go_loopw [3] (fun u wr => ∃ k : Nat, k ≤ g.os.length ∧ u = .int .i64 k ∧ Hid (tok g.os g.next k = true) ∧ Own wr w.heap.size 32 #[.int .i64 g.count, .int .i64 g.next, .int .i64 g.round, .slice A g.os.length cc] ∧ Below w.heap.size w wr) (fun u _ => g.os.length - (intOf u).toNat)
 case atStart => exact ⟨0, by omega, rfl, rfl, HBX.out, hbz⟩
 case round =>
  clear hbz
  obtain ⟨k, hk, rfl, htok, hbox, hbz⟩ := hrel
  have q1 := hbox.cell_ 1 (v := .int .i64 g.next) rfl
  have q3 := hbox.cell_ 3 (v := .slice A g.os.length cc) rfl
  have HBOX := Hd hbox
  have hbl := hbox.lt
  clear hbox
  by_cases hlt : k < g.os.length
  ·obtain ⟨o, eo⟩ : ∃ o, g.os[k]? = some o := ⟨_, List.getElem?_eq_getElem hlt⟩
   obtain ⟨b, ob, rfl, hbb, d0, d1⟩ := (HL.out.below hbz).ow eo
   have EO := Hd eo
   have hx := Own.new_ wr 186 #[.int .i64 o.1, .int .i64 o.2]
   have HB5 := Hd (HBOX.out.alloc (o := .cells #[.int .i64 o.1, .int .i64 o.2] 186))
   have hb5 : Below w.heap.size w (wr.alloc (.cells #[.int .i64 o.1, .int .i64 o.2] 186)) := bA hbz
   generalize hW5 : wr.alloc (.cells #[.int .i64 o.1, .int .i64 o.2] 186) = w5 at *
   have z1 := xcell (w := w5) (HB5.out.cell_ 1 (v := .int .i64 g.next) rfl) HB5.out.lt
   have z3 := xcell (w := w5) (HB5.out.cell_ 3 (v := .slice (some ⟨b, ob, none⟩) g.os.length cc) rfl) HB5.out.lt
   have y0 := xcell (w := w5) (hx.cell_ 0 (v := .int .i64 o.1) rfl) hx.lt
   have y1 := xcell (w := w5) (hx.cell_ 1 (v := .int .i64 o.2) rfl) hx.lt
   have HX := Hd hx
   have KW := fun W => l1Space_any o.1 W
   clear eo hx
   cases g1 : inR o.1 16 with
   | false =>
    rw [g1] at KW
    have HK := Hd KW
    clear KW
    have HE : Hid (tgv g = false) := tgv_ob EO.out (.inl g1)
    go_wp2
    refine wp_region_ext (by kernel_rfl) (by kernel_rfl) ?_
    repeat (go_big_quiet_step ((go_at_call 198; exact ext_same (HK.out _))))
    refine wpQuiet_nil ?_
    intro _ hw'
    obtain ⟨⟨wq, hq⟩, hw''⟩ := hw'
    subst hw''
    try dsimp only
    go_wp2
    go_ret
    exact ⟨by rw [HE.out]; rfl, bT hb5 hq⟩
   | true =>
   rw [g1] at KW
   have HK := Hd KW
   clear KW
   by_cases g2 : o.2 < 0
   case pos =>
    have HE : Hid (tgv g = false) := tgv_no fun h => by
     obtain ⟨o', e', _, h2, _⟩ := tok_at (tgv_parts h).2 hlt
     rw [EO.out] at e'
     injection e' with e'
     subst e'
     omega
    go_wp2
    refine wp_region_ext (by kernel_rfl) (by kernel_rfl) ?_
    repeat (go_big_quiet_step ((go_at_call 198; exact ext_same (HK.out _))))
    refine wpQuiet_nil ?_
    intro _ hw'
    obtain ⟨⟨wq, hq⟩, hw''⟩ := hw'
    subst hw''
    try dsimp only
    go_wp2
    go_ret
    exact ⟨by rw [HE.out]; rfl, bT hb5 hq⟩
   case neg =>
   by_cases g3 : g.next ≤ o.2
   case pos =>
    have HE : Hid (tgv g = false) := tgv_ob EO.out (.inr (.inl (by omega)))
    go_wp2
    have n2 : ¬ o.2 < 0 := by omega
    refine wp_region_ext (by kernel_rfl) (by kernel_rfl) ?_
    repeat (go_big_quiet_step ((go_at_call 198; exact ext_same (HK.out _))))
    refine wpQuiet_nil ?_
    intro _ hw'
    obtain ⟨⟨wq, hq⟩, hw''⟩ := hw'
    subst hw''
    try dsimp only
    go_wp2
    go_ret
    exact ⟨by rw [HE.out]; rfl, bT hb5 hq⟩
   case neg =>
   rcases k with _ | j
   ·have HLT : Hid (tlast g.os 0 < o.2) := by show _ < _; rw [tlast_0]; omega
    simp only [Nat.zero_mul, Nat.add_zero] at d0 d1
    go_wp2
    have n2 : ¬ o.2 < 0 := by omega
    have n3 : ¬ g.next ≤ o.2 := by omega
    refine wp_region_ext (by kernel_rfl) (by kernel_rfl) ?_
    repeat (go_big_quiet_step ((go_at_call 198; exact ext_same (HK.out _))))
    refine wpQuiet_nil ?_
    intro _ hw'
    obtain ⟨⟨wq, hq⟩, hw''⟩ := hw'
    subst hw''
    try dsimp only
    go_wp2
    go_loopw [5] (fun u wi => u = .int .i64 0 ∧ Below w5.heap.size w5 wi) (fun u _ => 0)
    case atStart => exact ⟨rfl, hq⟩
    case round =>
     obtain ⟨rfl, hbi⟩ := hrel
     have HTOK : Hid (tok g.os g.next (0 + 1) = true) := tok_step htok.out EO.out g1 (by omega) HLT.out (fun r q h => absurd h (by omega))
     have hbx6 := HB5.out.below hbi
     go_wp2
     go_roundw
     case rel => exact ⟨0 + 1, by omega, by go_num, HTOK, hbx6, bT hb5 hbi⟩
     case measure => simp [intOf]; omega
   ·obtain ⟨q, eq⟩ : ∃ q, g.os[j]? = some q := ⟨_, List.getElem?_eq_getElem (by omega)⟩
    obtain ⟨b', ob', e', hbb', f0, f1⟩ := (HL.out.below hbz).ow eq
    injection e' with e'
    injection e' with e' e2'
    subst e' e2'
    have y3 := xcell (w := w5) (p := ⟨b, ob + j * 2 + 1, none⟩) (v := .int .i64 q.2) (by rw [← hW5]; exact cells_far (by have := hbz.size; omega) f1) (by have := hb5.size; show b < _; omega)
    have HTL := Hd (tlast_of eq)
    clear eq f0 f1
    by_cases g4 : o.2 ≤ q.2
    ·have HE : Hid (tgv g = false) := tgv_ob EO.out (.inr (.inr (.inl (by rw [HTL.out]; omega))))
     go_wp2
     have n2 : ¬ o.2 < 0 := by omega
     have n3 : ¬ g.next ≤ o.2 := by omega
     refine wp_region_ext (by kernel_rfl) (by kernel_rfl) ?_
     repeat (go_big_quiet_step ((go_at_call 198; exact ext_same (HK.out _))))
     refine wpQuiet_nil ?_
     intro _ hw'
     obtain ⟨⟨wq, hq⟩, hw''⟩ := hw'
     subst hw''
     try dsimp only
     go_wp2
     go_ret
     exact ⟨by rw [HE.out]; rfl, bT hb5 hq⟩
    ·have HLT : Hid (tlast g.os (j + 1) < o.2) := by show _ < _; rw [HTL.out]; omega
     go_wp2
     have n2 : ¬ o.2 < 0 := by omega
     have n3 : ¬ g.next ≤ o.2 := by omega
     have n4 : ¬ o.2 ≤ q.2 := by omega
     refine wp_region_ext (by kernel_rfl) (by kernel_rfl) ?_
     repeat (go_big_quiet_step ((go_at_call 198; exact ext_same (HK.out _))))
     refine wpQuiet_nil ?_
     intro _ hw'
     obtain ⟨⟨wq, hq⟩, hw''⟩ := hw'
     subst hw''
     try dsimp only
     go_wp2
     go_loopw [5] (fun u wi => ∃ r : Nat, r ≤ j + 1 ∧ u = .int .i64 r ∧ Hid (∀ (m : Nat) (q : Int × Int), m < r → g.os[m]? = some q → ¬ q.1 = o.1) ∧ Below w5.heap.size w5 wi) (fun u _ => j + 1 - (intOf u).toNat)
     case atStart => exact ⟨0, by omega, rfl, (fun m q h => absurd h (by omega)), hq⟩
     case round =>
      obtain ⟨r, hr, rfl, hacc, hbi⟩ := hrel
      by_cases hlr : r < j + 1
      ·obtain ⟨p, ep⟩ : ∃ p, g.os[r]? = some p := ⟨_, List.getElem?_eq_getElem (by omega)⟩
       obtain ⟨b2, o2, e2, hbb2, f0, f1⟩ := (HL.out.below (bT hb5 hbi)).ow ep
       injection e2 with e2
       injection e2 with e2 e3
       subst e2 e3
       have v0 := xcell f0 (by have := (bT hb5 hbi).size; show b < _; omega)
       have v3 := xcell ((HB5.out.below hbi).cell_ 3 (v := .slice (some ⟨b, ob, none⟩) g.os.length cc) rfl) (HB5.out.below hbi).lt
       have v4 := xcell ((HX.out.below hbi).cell_ 0 (v := .int .i64 o.1) rfl) (HX.out.below hbi).lt
       have EP := Hd ep
       clear ep f0 f1
       by_cases hp : p.1 = o.1
       ·have HE : Hid (tgv g = false) := tgv_ob EO.out (.inr (.inr (.inr ⟨r, p, by omega, EP.out, hp⟩)))
        go_wp2
        refine wp_region_ext (by kernel_rfl) (by kernel_rfl) ?_
        repeat (go_big_quiet_step (fail))
        refine wpQuiet_nil ?_
        intro _ hw'
        obtain ⟨⟨wq, hq⟩, hw''⟩ := hw'
        subst hw''
        try dsimp only
        go_wp2
        go_ret
        exact ⟨by rw [HE.out]; rfl, bT (bT hb5 hbi) hq⟩
       ·have HACC : Hid (∀ (m : Nat) (q : Int × Int), m < r + 1 → g.os[m]? = some q → ¬ q.1 = o.1) := own_go EP.out hacc.out hp
        go_wp2
        have hp2 : ¬ p.1 = o.1 := hp
        refine wp_region_ext (by kernel_rfl) (by kernel_rfl) ?_
        repeat (go_big_quiet_step (fail))
        refine wpQuiet_nil ?_
        intro _ hw'
        obtain ⟨⟨wq, hq⟩, hw''⟩ := hw'
        subst hw''
        try dsimp only
        go_wp2
        go_roundw
        case rel => exact ⟨r + 1, by omega, by go_num, HACC, bT hbi hq⟩
        case measure => simp [intOf]; omega
      ·obtain rfl : r = j + 1 := by omega
       have HTOK : Hid (tok g.os g.next (j + 1 + 1) = true) := tok_step htok.out EO.out g1 (by omega) HLT.out hacc.out
       have hbx6 := HB5.out.below hbi
       go_wp2
       go_roundw
       case rel => exact ⟨j + 1 + 1, by omega, by go_num, HTOK, hbx6, bT hb5 hbi⟩
       case measure => simp [intOf]; omega
  ·obtain rfl : k = g.os.length := by omega
   have HE : Hid (tgv g = true) := tgv_end HGB.out htok.out
   go_wp2
   go_ret
   exact ⟨by rw [HE.out]; rfl, hbz⟩
set_option maxHeartbeats 1000000 in
theorem sSpaceOf_any (vo : Value) (g : Tg) (tag : Int) (w : World) (hT : SlR owE w vo g.os) :
  Calls Tryz.prog 199 #[.agg #[.int .i64 g.count, .int .i64 g.next, .int .i64 g.round, vo], .int .i64 tag] w fun r w' => r = .returned (.tuple #[.int .i64 (spV g tag), .bool (spO g tag)]) ∧ Below w.heap.size w w' := by
 have HV := Hd hT
 obtain ⟨A, cc, rfl, hbc, hbm, hL⟩ := hT
 have hfm2 : g.os.length ≤ 9223372036854775807 := by unfold maxLen at hbm; omega
 have HL := Hd hL
 have hbx := Own.new_ w 32 #[.int .i64 g.count, .int .i64 g.next, .int .i64 g.round, .slice A g.os.length cc]
 have hbz : Below w.heap.size w (w.alloc (.cells #[.int .i64 g.count, .int .i64 g.next, .int .i64 g.round, .slice A g.os.length cc] 32)) := bA bR
 have hsz0 : (w.alloc (.cells #[.int .i64 g.count, .int .i64 g.next, .int .i64 g.round, .slice A g.os.length cc] 32)).heap.size = w.heap.size + 1 := by simp
 generalize hW : w.alloc (.cells #[.int .i64 g.count, .int .i64 g.next, .int .i64 g.round, .slice A g.os.length cc] 32) = W0 at hbx hbz hsz0
 have q0 := hbx.cell_ 0 (v := .int .i64 g.count) rfl
 have q1 := hbx.cell_ 1 (v := .int .i64 g.next) rfl
 have q2 := hbx.cell_ 2 (v := .int .i64 g.round) rfl
 have q3 := hbx.cell_ 3 (v := .slice A g.os.length cc) rfl
 have HBX := Hd hbx
 clear hL hbx q0 q1 q2 q3 hsz0
 go_enter Tryz.func199, Tryz.ntmps199
 go_wp2
 go_loopw [6] (fun u wr => ∃ k : Nat, k ≤ g.os.length ∧ u = .int .i64 k ∧ Hid (0 < k → tgv g = true) ∧ Hid (∀ (j : Nat) (q : Int × Int), j < k → g.os[j]? = some q → ¬ q.2 = tag) ∧ Own wr w.heap.size 32 #[.int .i64 g.count, .int .i64 g.next, .int .i64 g.round, .slice A g.os.length cc] ∧ Below w.heap.size w wr) (fun u _ => g.os.length - (intOf u).toNat)
 case atStart => exact ⟨0, by omega, rfl, (fun h => absurd h (by omega)), (fun j q h => absurd h (by omega)), HBX.out, hbz⟩
 case round =>
  clear hbz
  obtain ⟨k, hk, rfl, htv, hacc, hbox, hbz⟩ := hrel
  have q0 := hbox.cell_ 0 (v := .int .i64 g.count) rfl
  have q1 := hbox.cell_ 1 (v := .int .i64 g.next) rfl
  have q2 := hbox.cell_ 2 (v := .int .i64 g.round) rfl
  have q3 := hbox.cell_ 3 (v := .slice A g.os.length cc) rfl
  have HBOX := Hd hbox
  clear hbox
  by_cases hlt : k < g.os.length
  ·go_wp2_with fail
   refine (sTagsValid_any _ g _ (HV.out.now hbz)).mono ?_
   rintro e w1 ⟨rfl, hb1⟩
   have HB1 := Hd (HBOX.out.below hb1)
   have hbz1 := bT hbz hb1
   clear q0 q1 q2 q3 hb1 hbz
   have q3 := HB1.out.cell_ 3 (v := .slice A g.os.length cc) rfl
   cases h1 : tgv g with
   | false =>
    obtain ⟨e1, e2⟩ := spO_no (tag := tag) h1
    have E1 := Hd e1
    have E2 := Hd e2
    clear e1 e2
    go_wp2
    go_ret2
    exact ⟨by rw [E1.out, E2.out]; rfl, hbz1⟩
   | true =>
    obtain ⟨o, eo⟩ : ∃ o, g.os[k]? = some o := ⟨_, List.getElem?_eq_getElem hlt⟩
    obtain ⟨b, ob, rfl, hbb, d0, d1⟩ := (HL.out.below hbz1).ow eo
    by_cases ht : o.2 = tag
    ·obtain ⟨e1, e2⟩ := spO_some h1 (spc_at eo hacc.out ht) eo
     have E1 := Hd e1
     have E2 := Hd e2
     clear e1 e2 eo
     go_wp2
     go_ret2
     exact ⟨by rw [E1.out, E2.out]; rfl, hbz1⟩
    ·have HACC := Hd (spc_go eo hacc.out ht)
     have H1 : Hid (tgv g = true) := h1
     clear eo
     go_wp2
     go_roundw
     case rel => exact ⟨k + 1, by omega, by go_num, (fun _ => H1.out), HACC, HB1.out, hbz1⟩
     case measure => simp [intOf]; omega
  ·obtain ⟨e1, e2⟩ : spO g tag = false ∧ spV g tag = 0 := by
    cases h1 : tgv g with
    | false => exact spO_no h1
    | true => exact spO_none h1 (spc_none (Nat.le_of_not_lt hlt) hacc.out)
   have E1 := Hd e1
   have E2 := Hd e2
   clear e1 e2
   go_wp2
   go_ret2
   exact ⟨by rw [E1.out, E2.out]; rfl, hbz⟩
end Go.Proofs.YtfbnokjdkhcgoaaGreatDoor
