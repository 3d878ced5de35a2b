/- A part of the proofs of this seat: LvT. -/
import Derived.Deep.LoopGhost
import Derived.Test.YtibpnlojlfcpmaaGreatDoorAMemv1
set_option linter.unusedVariables false
set_option linter.unusedSimpArgs false
set_option maxRecDepth 1000000
namespace Go.Proofs.YtibpnlojlfcpmaaGreatDoor
open Go.RowKit
theorem rso_to {B k c : Nat} {w : World} {A : Option Addr} {l : List (Int × Int)} (h : Rs owE B w A l) (hk : k ≤ l.length) (hc : l.length ≤ c) : Rs owE B w A (l.take k) := by
 have h3 := h.cut (c := c) (lo := 0) (hi := k) (Nat.zero_le _) hk hc
 rw [owE.cells_take l k, Nat.zero_mul, List.drop_zero, Nat.sub_zero, cutA_zero] at h3
 unfold Rs
 rw [show (l.take k).length = k by simp; omega]
 exact h3
theorem rso_from {B k c : Nat} {w : World} {A : Option Addr} {l : List (Int × Int)} (h : Rs owE B w A l) (hk : k ≤ l.length) (hc : l.length ≤ c) : Rs owE B w (cutA A c k 2) (l.drop k) := by
 have h3 := h.cut (c := c) (lo := k) (hi := l.length) hk (Nat.le_refl _) hc
 rw [owE.cells_take l l.length, List.take_length, owE.cells_drop l k] at h3
 unfold Rs
 rw [show (l.drop k).length = l.length - k by simp]
 exact h3
theorem cutO_hi (A : Option Addr) (n c k : Nat) (h : k ≤ c) (W : World) : (Instr.slice 44 (.slice A n c) none (some (.int .i64 (k : Int))) none).run Tryz.prog W = .ok (.slice A k c) W := by
 obtain ⟨i0, hi0, hz0, hz1, hz2⟩ := info_parts ow_info
 have h1 := slice_hi (P := Tryz.prog) W 44 126 i0 2 A n c Tryz.underlying44 hi0 (k : Int) (by omega) (by omega)
 rw [cutA_zero, Int.toNat_natCast, Nat.sub_zero, Nat.sub_zero] at h1
 exact h1
theorem cutO_lo (A : Option Addr) (n c k : Nat) (h : k + 1 ≤ n) (W : World) : (Instr.slice 44 (.slice A n c) (some (.int .i64 ((k : Int) + 1))) none none).run Tryz.prog W = .ok (.slice (cutA A c (k + 1) 2) (n - (k + 1)) (c - (k + 1))) W := by
 obtain ⟨i0, hi0, hz0, hz1, hz2⟩ := info_parts ow_info
 have h1 := slice_lo (P := Tryz.prog) W 44 126 i0 2 A n c Tryz.underlying44 hi0 hz1 ((k : Int) + 1) (by omega) (by omega)
 rw [show ((k : Int) + 1).toNat = k + 1 by omega] at h1
 exact h1
theorem run_append_os (base : Nat) (W : World) (v : Value) (l m : List (Int × Int)) (A : Option Addr) (c : Nat) (hown : W.ownsRow base 126 2 v l.length (owE.cells l)) (hr : Rs owE W.heap.size W A m) (hs : l.length + m.length ≤ 1048576) (hb : base ≤ W.heap.size) :
  ∃ v' w', (Builtin.append_ #[44, 44] 44 #[v, .slice A m.length c]).run Tryz.prog W = .ok v' w' ∧
   w'.ownsRow base 126 2 v' (l ++ m).length (owE.cells (l ++ m)) ∧ W.grownBy w' v.ownBlock := by
 obtain ⟨i0, hi0, hz0, hz1, hz2⟩ := info_parts ow_info
 obtain ⟨v', w', h1, h2, h3, _⟩ := run_append_rd (P := Tryz.prog) W base 44 44 126 i0 _ 2 16 Tryz.underlying44 hi0 hz0 hz1 hz2 rfl (by omega) v l.length (owE.cells l) hown W.heap.size A m.length c (owE.cells m) hr (owE.cells_one m) (by unfold maxLen; omega) (by omega) hb
 refine ⟨v', w', h1, ?_, h3⟩
 rw [List.length_append, owE.cells_append]
 exact h2
theorem growO_any (n : Nat) (w : World) (hn : n ≤ 1048576) : Calls Tryz.prog 214 #[.slice none 0 0, .int .i64 n] w (Post2 fun v w' => w'.ownsRow w.heap.size 126 2 v 0 [] ∧ Below w.heap.size w w') := by
 rcases Nat.eq_zero_or_pos n with h0 | h0
 ·subst h0
  have h := Any8.slices_Grow_room Tryz.growO none 0 0 0 w (Nat.le_refl _) (by omega) (by omega) (Nat.le_refl _)
  refine Calls.mono h ?_
  rintro e w' ⟨rfl, rfl⟩
  exact ⟨_, rfl, World.ownsRow_nil _ _ _ _, bR⟩
 ·obtain ⟨i0, hi0, hz0, hz1, hz2⟩ := info_parts ow_info
  have h := Any8.slices_Grow_grow Tryz.growO i0 (.agg #[.int .i64 0, .int .i64 0]) hi0 hz0 (by omega) none 0 0 n [] w (Nat.le_refl _) (by omega) (by rw [hz2]; omega) (by omega) (by simp) (fun _ => rfl) (fun a ha => by cases ha)
  refine Calls.mono h ?_
  rintro e w' ⟨rfl, rfl⟩
  refine ⟨_, rfl, ?_, bA (bD bR)⟩
  have hG := grownCap_ge w (0 + n) 0 126
  have hM := grownCap_le_maxLen w (0 + n) 0 126 (by unfold maxLen; omega)
  have hown := World.ownsRow_made (base := w.heap.size) (e := 126) (size := 2) w.drew ((([] : List Value).toArray ++ Builtin.zeroCells (Value.agg #[.int .i64 0, .int .i64 0]).cells (0 + n - 0)) ++ Builtin.zeroCells (Value.agg #[.int .i64 0, .int .i64 0]).cells (grownCap w (0 + n) 0 126 - (0 + n))) (grownCap w (0 + n) 0 126) (Nat.le_refl _) hM (by
   rw [Array.size_append, Array.size_append, zeroCells_one, zeroCells_one]
   show 0 + (0 + n - 0) * 2 + (grownCap w (0 + n) 0 126 - (0 + n)) * 2 = _
   omega)
  exact hown
theorem concat2_any (g : Nat) (A1 A2 : Option Addr) (c1 c2 : Nat) (l1 l2 : List (Int × Int)) (w : World) (hg : Own w g 44 #[.slice A1 l1.length c1, .slice A2 l2.length c2])
  (hr1 : Rs owE w.heap.size w A1 l1) (hr2 : Rs owE w.heap.size w A2 l2) (hl : l1.length + l2.length ≤ 1000) :
  Calls Tryz.prog 156 #[.slice (some ⟨g, 0, none⟩) 2 2] w (Post2 fun v w' => w'.ownsRow w.heap.size 126 2 v (l1 ++ l2).length (owE.cells (l1 ++ l2)) ∧ Below w.heap.size w w') := by
 have hl1 : l1.length ≤ 1000 := by omega
 have hl2 : l2.length ≤ 1000 := by omega
 have hw1 : IntKind.i64.wrap (0 + (l1.length : Int)) = (l1.length : Int) := by rw [Int.zero_add]; exact IntWalk.i64_in _ (by omega)
 have hw2 : IntKind.i64.wrap ((l1.length : Int) + (l2.length : Int)) = ((l1.length + l2.length : Nat) : Int) := by rw [IntWalk.i64_in _ (by omega)]; omega
 have HR1 := Hd hr1
 have HR2 := Hd hr2
 have HG := Hd hg
 clear hr1 hr2 hg
 go_enter Tryz.func156, Tryz.ntmps156
 go_wp2
 go_loopw [3, 11] (fun sz u wr => Hid (Below w.heap.size w wr) ∧ ((u = .int .i64 0 ∧ sz = .int .i64 0) ∨ (u = .int .i64 1 ∧ sz = .int .i64 (l1.length : Int)) ∨ (u = .int .i64 2 ∧ sz = .int .i64 ((l1.length + l2.length : Nat) : Int)))) (fun _ u _ => 2 - (intOf u).toNat)
 case atStart => exact ⟨Hd bR, .inl ⟨rfl, rfl⟩⟩
 case round =>
  obtain ⟨HB, h⟩ := hrel
  obtain ⟨wy, rfl⟩ : ∃ wy, wy = wr := ⟨_, rfl⟩
  have h0 := (HG.out.below HB.out).cell_ 0 (v := .slice A1 l1.length c1) rfl
  have h1 := (HG.out.below HB.out).cell_ 1 (v := .slice A2 l2.length c2) rfl
  rcases h with ⟨rfl, rfl⟩ | ⟨rfl, rfl⟩ | ⟨rfl, rfl⟩
  ·have hneg : ¬ ((l1.length : Int) < 0) := by omega
   go_wp2
   go_roundw
   case rel => exact ⟨HB, .inr (.inl ⟨by rfl, by simp⟩)⟩
   case measure => simp [intOf]
  ·have hneg : ¬ (((l1.length + l2.length : Nat) : Int) < 0) := by omega
   go_wp2
   go_roundw
   case rel => exact ⟨HB, .inr (.inr ⟨by rfl, by simp⟩)⟩
   case measure => simp [intOf]
  ·clear h0 h1 hw1 hw2
   have HN := Hd hl
   have hln : l1.length + l2.length ≤ 1048576 := by omega
   clear hl
   go_wp2_with fail
   refine (growO_any (l1.length + l2.length) wy hln).mono ?_
   rintro e w1 ⟨v1, rfl, ho1, hb1⟩
   have HO1 := Hd (own_mono ho1 HB.out.size)
   have HB1 := Hd (bT HB.out hb1)
   clear ho1 hb1 HB
   go_wp2
   go_loopw [6, 27] (fun v u wr => Hid (Below w.heap.size w wr) ∧ ((u = .int .i64 0 ∧ Hid (wr.ownsRow w.heap.size 126 2 v 0 [])) ∨ (u = .int .i64 1 ∧ Hid (wr.ownsRow w.heap.size 126 2 v l1.length (owE.cells l1))) ∨ (u = .int .i64 2 ∧ Hid (wr.ownsRow w.heap.size 126 2 v (l1 ++ l2).length (owE.cells (l1 ++ l2)))))) (fun _ u _ => 2 - (intOf u).toNat)
   case atStart => exact ⟨HB1, .inl ⟨rfl, HO1⟩⟩
   case round =>
    obtain ⟨HB, h⟩ := hrel
    have h0 := (HG.out.below HB.out).cell_ 0 (v := .slice A1 l1.length c1) rfl
    have h1 := (HG.out.below HB.out).cell_ 1 (v := .slice A2 l2.length c2) rfl
    have hsz := HB.out.size
    rcases h with ⟨rfl, HX⟩ | ⟨rfl, HX⟩ | ⟨rfl, HX⟩
    ·obtain ⟨v7, w7, hrun, ho7, hg7⟩ := run_append_os w.heap.size wr _ [] l1 A1 c1 HX.out (HR1.out.now (Nat.le_refl _) HB.out) (by simp; omega) hsz
     have HB7 := Hd (bG HB.out hg7 (own_block HX.out))
     have HX7 := Hd ho7
     obtain ⟨A8, c8, rfl, _⟩ := own_rd HX.out
     clear ho7 hg7 HX HB
     go_wp2_with (at_builtin; refine wpList_append_run _ rfl (.tmp 31) (.tmp 32) 44 rfl _ _ _ _ rfl rfl hrun ?_)
     clear hrun
     go_roundw
     case rel => exact ⟨HB7, .inr (.inl ⟨by rfl, by simpa using HX7⟩)⟩
     case measure => simp [intOf]
    ·obtain ⟨v7, w7, hrun, ho7, hg7⟩ := run_append_os w.heap.size wr _ l1 l2 A2 c2 HX.out (HR2.out.now (Nat.le_refl _) HB.out) (by have := HN.out; omega) hsz
     have HB7 := Hd (bG HB.out hg7 (own_block HX.out))
     have HX7 := Hd ho7
     obtain ⟨A8, c8, rfl, _⟩ := own_rd HX.out
     clear ho7 hg7 HX HB
     go_wp2_with (at_builtin; refine wpList_append_run _ rfl (.tmp 31) (.tmp 32) 44 rfl _ _ _ _ rfl rfl hrun ?_)
     clear hrun
     go_roundw
     case rel => exact ⟨HB7, .inr (.inr ⟨by rfl, HX7⟩)⟩
     case measure => simp [intOf]
    ·clear h0 h1
     go_wp2
     go_ret
     exact ⟨_, rfl, HX.out, HB.out⟩
theorem lvV_no {g : Tg} {s : Int} (h : tgO g s = false) : lvV g s = tgz := by unfold lvV; rw [h]; rfl
theorem lvV_at {g : Tg} {s : Int} (h : tgO g s = true) {k : Nat} (hk : ownI g.os s = (k : Int)) : lvV g s = ⟨g.count, g.next, g.round, g.os.take k ++ g.os.drop (k + 1)⟩ := by
 unfold lvV lvC
 rw [if_pos h, hk, Int.toNat_natCast, List.eraseIdx_eq_take_drop_succ]
set_option maxHeartbeats 1000000 in
theorem LeaveTag_any (vo : Value) (g : Tg) (s : Int) (w : World) (hT : SlR owE w vo g.os) :
    Calls Tryz.prog 84 #[.agg #[.int .i64 g.count, .int .i64 g.next, .int .i64 g.round, vo], .int .i64 s] w (Post2 fun v w' => ∃ v4, v = .tuple #[.agg #[.int .i64 (lvV g s).count, .int .i64 (lvV g s).next, .int .i64 (lvV g s).round, v4], .bool (tgO g s)] ∧ SlM owE 126 w.heap.size w' v4 (lvV g s).os ∧ Below w.heap.size w w') := by
  have HV0 := Hd hT
  obtain ⟨A, cc, rfl, hbc, hbm, hL⟩ := hT
  have hbx := (Own.new_ w 46 #[.int .i64 g.count, .int .i64 g.next, .int .i64 g.round, .slice A g.os.length cc]).alloc (o := .cells #[.int .i64 0, .int .i64 0, .int .i64 0, .slice none 0 0] 46)
  have hbo := ownAt (W := w.alloc (.cells #[.int .i64 g.count, .int .i64 g.next, .int .i64 g.round, .slice A g.os.length cc] 46)) (g := w.heap.size + 1) (t := 46) (cs := #[.int .i64 0, .int .i64 0, .int .i64 0, .slice none 0 0]) (by simp)
  have hb0 : Below w.heap.size w ((w.alloc (.cells #[.int .i64 g.count, .int .i64 g.next, .int .i64 g.round, .slice A g.os.length cc] 46)).alloc (.cells #[.int .i64 0, .int .i64 0, .int .i64 0, .slice none 0 0] 46)) := bA (bA bR)
  have hs0 : ((w.alloc (.cells #[.int .i64 g.count, .int .i64 g.next, .int .i64 g.round, .slice A g.os.length cc] 46)).alloc (.cells #[.int .i64 0, .int .i64 0, .int .i64 0, .slice none 0 0] 46)).heap.size = w.heap.size + 2 := by simp
  generalize hW : (w.alloc (.cells #[.int .i64 g.count, .int .i64 g.next, .int .i64 g.round, .slice A g.os.length cc] 46)).alloc (.cells #[.int .i64 0, .int .i64 0, .int .i64 0, .slice none 0 0] 46) = W0 at hbx hbo hb0 hs0
  have HX0 := Hd hbx
  have HR0 := Hd hbo
  have HB0 := Hd hb0
  have HS0 : Hid (w.heap.size + 2 ≤ W0.heap.size) := Nat.le_of_eq hs0.symm
  have HLR := Hd hL
  clear hbx hbo hb0 hL
  have q0 := HX0.out.cell_ 0 (v := .int .i64 g.count) rfl
  have q1 := HX0.out.cell_ 1 (v := .int .i64 g.next) rfl
  have q2 := HX0.out.cell_ 2 (v := .int .i64 g.round) rfl
  have q3 := HX0.out.cell_ 3 (v := .slice A g.os.length cc) rfl
  go_enter Tryz.func84, Tryz.ntmps84
  go_wp2_with fail
  refine (TagsValid_any _ g _ (HV0.out.now HB0.out)).mono ?_
  rintro e w1 ⟨rfl, hb1⟩
  have HX1 := Hd (HX0.out.below hb1)
  have HR1 := Hd (HR0.out.below hb1)
  have HB1 := Hd (bT HB0.out hb1)
  have HS1 := Hd (Nat.le_trans HS0.out hb1.size)
  clear hb1
  clear q0 q1 q2 q3
  cases h1 : tgv g with
  | false =>
    have HE := Hd (tgO_no (s := s) h1).1
    have HV := Hd (lvV_no HE.out)
    have r0 := HR1.out.cell_ 0 (v := .int .i64 0) rfl
    have r1 := HR1.out.cell_ 1 (v := .int .i64 0) rfl
    have r2 := HR1.out.cell_ 2 (v := .int .i64 0) rfl
    have r3 := HR1.out.cell_ 3 (v := .slice none 0 0) rfl
    have f0 := HR1.out.free 0
    have f1 := HR1.out.free 1
    have f2 := HR1.out.free 2
    have f3 := HR1.out.free 3
    have hl1 := HR1.out.lt
    go_wp2
    have o3 := (((HR1.out.set_ 0 (.int .i64 0)).set_ 1 (.int .i64 0)).set_ 2 (.int .i64 0)).set_ 3 (.slice none 0 0)
    have t0 := o3.cell_ 0 (v := .int .i64 0) rfl
    have t1 := o3.cell_ 1 (v := .int .i64 0) rfl
    have t2 := o3.cell_ 2 (v := .int .i64 0) rfl
    have t3 := o3.cell_ 3 (v := .slice none 0 0) rfl
    refine bodyPost_ret (v := .tuple #[.agg #[.int .i64 0, .int .i64 0, .int .i64 0, .slice none 0 0], .bool false]) (by simp [results, Tryz.results84, go_sem, t0, t1, t2, t3]) rfl ⟨_, rfl, _, by rw [HV.out, HE.out]; rfl, by rw [HV.out]; exact SlM.nil_ _, ?_⟩
    repeat (refine bS ?_ (by simp <;> omega))
    exact HB1.out
  | true =>
  obtain ⟨⟨b1, b2, b3, b4, b5, b6⟩, htok⟩ := tgv_parts h1
  have hlen := tok_len htok b3
  have q0 := HX1.out.cell_ 0 (v := .int .i64 g.count) rfl
  have q1 := HX1.out.cell_ 1 (v := .int .i64 g.next) rfl
  have q2 := HX1.out.cell_ 2 (v := .int .i64 g.round) rfl
  have q3 := HX1.out.cell_ 3 (v := .slice A g.os.length cc) rfl
  go_wp2_with fail
  refine (own_any _ g s _ (HV0.out.now HB1.out)).mono ?_
  rintro e w2 ⟨rfl, hb2⟩
  have HX2 := Hd (HX1.out.below hb2)
  have HR2 := Hd (HR1.out.below hb2)
  have HB2 := Hd (bT HB1.out hb2)
  have HS2 := Hd (Nat.le_trans HS1.out hb2.size)
  clear hb2
  clear q0 q1 q2 q3
  by_cases h3 : 0 ≤ ownI g.os s
  case neg =>
    have HE := Hd (tgO_neg (g := g) h3).1
    have HV := Hd (lvV_no HE.out)
    have h3b : ownI g.os s < 0 := by omega
    clear h3
    have r0 := HR2.out.cell_ 0 (v := .int .i64 0) rfl
    have r1 := HR2.out.cell_ 1 (v := .int .i64 0) rfl
    have r2 := HR2.out.cell_ 2 (v := .int .i64 0) rfl
    have r3 := HR2.out.cell_ 3 (v := .slice none 0 0) rfl
    have f0 := HR2.out.free 0
    have f1 := HR2.out.free 1
    have f2 := HR2.out.free 2
    have f3 := HR2.out.free 3
    have hl1 := HR2.out.lt
    go_wp2
    have o3 := (((HR2.out.set_ 0 (.int .i64 0)).set_ 1 (.int .i64 0)).set_ 2 (.int .i64 0)).set_ 3 (.slice none 0 0)
    have t0 := o3.cell_ 0 (v := .int .i64 0) rfl
    have t1 := o3.cell_ 1 (v := .int .i64 0) rfl
    have t2 := o3.cell_ 2 (v := .int .i64 0) rfl
    have t3 := o3.cell_ 3 (v := .slice none 0 0) rfl
    refine bodyPost_ret (v := .tuple #[.agg #[.int .i64 0, .int .i64 0, .int .i64 0, .slice none 0 0], .bool false]) (by simp [results, Tryz.results84, go_sem, t0, t1, t2, t3]) rfl ⟨_, rfl, _, by rw [HV.out, HE.out]; rfl, by rw [HV.out]; exact SlM.nil_ _, ?_⟩
    repeat (refine bS ?_ (by simp <;> omega))
    exact HB2.out
  case pos =>
    obtain ⟨k, o, hk, eo, _⟩ := ownI_lt h3
    have HE := Hd (tgO_yes h1 hk eo).1
    have HV := Hd (lvV_at HE.out hk)
    have HOW := Hd hk
    have hkl := (List.getElem?_eq_some_iff.1 eo).1
    have h3b : ¬ (k : Int) < 0 := by omega
    rw [hk]
    clear hk eo h3
    have q0 := HX2.out.cell_ 0 (v := .int .i64 g.count) rfl
    have q1 := HX2.out.cell_ 1 (v := .int .i64 g.next) rfl
    have q2 := HX2.out.cell_ 2 (v := .int .i64 g.round) rfl
    have q3 := HX2.out.cell_ 3 (v := .slice A g.os.length cc) rfl
    go_wp2_with fail
    refine (own_any _ g s _ (HV0.out.now HB2.out)).mono ?_
    rintro e w3 ⟨rfl, hb3⟩
    rw [HOW.out]
    have HX3 := Hd (HX2.out.below hb3)
    have HR3 := Hd (HR2.out.below hb3)
    have HB3 := Hd (bT HB2.out hb3)
    have HS3 := Hd (Nat.le_trans HS2.out hb3.size)
    clear hb3
    clear q0 q1 q2 q3
    have ho4 := Own.new_ w3 46 #[.int .i64 g.count, .int .i64 g.next, .int .i64 g.round, .slice A g.os.length cc]
    have hb4 : Below w3.heap.size w3 (w3.alloc (.cells #[.int .i64 g.count, .int .i64 g.next, .int .i64 g.round, .slice A g.os.length cc] 46)) := bA bR
    have hs4 : (w3.alloc (.cells #[.int .i64 g.count, .int .i64 g.next, .int .i64 g.round, .slice A g.os.length cc] 46)).heap.size = w3.heap.size + 1 := by simp
    generalize hW4 : w3.alloc (.cells #[.int .i64 g.count, .int .i64 g.next, .int .i64 g.round, .slice A g.os.length cc] 46) = w4 at ho4 hb4 hs4
    have HU4 := Hd ho4
    have hlr3 := HR3.out.lt
    have q0 := HX3.out.cell_ 0 (v := .int .i64 g.count) rfl
    have q1 := HX3.out.cell_ 1 (v := .int .i64 g.next) rfl
    have q2 := HX3.out.cell_ 2 (v := .int .i64 g.round) rfl
    have q3 := HX3.out.cell_ 3 (v := .slice A g.os.length cc) rfl
    have HX4 := Hd (HX3.out.below hb4)
    have HR4 := Hd (HR3.out.below hb4)
    have HB4 := Hd (bT HB3.out hb4)
    have HS4 := Hd (Nat.le_trans HS3.out hb4.size)
    clear hb4
    clear ho4
    go_upto_region 5 with fail
    try rw [hW4]
    clear q0 q1 q2 q3 hW4
    have q3 := HX4.out.cell_ 3 (v := .slice A g.os.length cc) rfl
    have hch := fun W => cutO_hi A g.os.length cc k (by omega) W
    have hcl := fun W => cutO_lo A g.os.length cc k (by omega) W
    have hwk : IntKind.i64.wrap ((k : Int) + 1) = (k : Int) + 1 := IntWalk.i64_in _ (by omega)
    have hlt1 : (g.os.take k).length = k := by simp; omega
    have hlt2 : (g.os.drop (k + 1)).length = g.os.length - (k + 1) := by simp
    obtain ⟨Ls, hLs⟩ : ∃ L, g.os.take k ++ g.os.drop (k + 1) = L := ⟨_, rfl⟩
    have HCC : Hid (∀ (W : World) (gb : Nat), Own W gb 44 #[.slice A k cc, .slice (cutA A cc (k + 1) 2) (g.os.length - (k + 1)) (cc - (k + 1))] → Below w.heap.size w W → Calls Tryz.prog 156 #[.slice (some ⟨gb, 0, none⟩) 2 2] W (Post2 fun v w' => w'.ownsRow W.heap.size 126 2 v Ls.length (owE.cells Ls) ∧ Below W.heap.size W w')) := by
      intro W gb hg hb
      rw [← hLs]
      exact concat2_any gb A (cutA A cc (k + 1) 2) cc (cc - (k + 1)) (g.os.take k) (g.os.drop (k + 1)) W (by rw [hlt1, hlt2]; exact hg) (rso_to (HLR.out.now (Nat.le_refl _) hb) (by omega) hbc) (rso_from (HLR.out.now (Nat.le_refl _) hb) (by omega) hbc) (by rw [hlt1, hlt2]; omega)
    replace HV := HV.out
    rw [hLs] at HV
    replace HV := Hd HV
    clear hLs
    clear hlt1 hlt2
    have hn1 : w.heap.size ≠ w3.heap.size := by omega
    have hn2 : w3.heap.size ≠ w.heap.size := by omega
    have hn3 : w.heap.size + 1 ≠ w3.heap.size := by omega
    have hn4 : w3.heap.size ≠ w.heap.size + 1 := by omega
    go_region_held_law (fun w' => w'.cell? ⟨w.heap.size, 3, none⟩ = some (.slice A g.os.length cc)) (go_keep) (first
      | (go_at_call 156
         refine (HCC.out _ _ (by exact (ownAt (W := w4) (g := w3.heap.size + 1) hs4.symm).drew) (by exact bD (bA HB4.out))).mono ?_
         rintro e w5 ⟨v5, rfl, ho5, hb5⟩
         have HB5 := Hd (bT (bD (bA HB4.out)) hb5)
         have hx5 := (HX4.out.alloc (o := .cells #[.slice A k cc, .slice (cutA A cc (k + 1) 2) (g.os.length - (k + 1)) (cc - (k + 1))] 44)).drew.below hb5
         have d3 := hx5.cell_ 3 (v := .slice A g.os.length cc) rfl
         have hu5 := (HU4.out.alloc (o := .cells #[.slice A k cc, .slice (cutA A cc (k + 1) 2) (g.os.length - (k + 1)) (cc - (k + 1))] 44)).drew.below hb5
         have hr5 := (HR4.out.alloc (o := .cells #[.slice A k cc, .slice (cutA A cc (k + 1) 2) (g.os.length - (k + 1)) (cc - (k + 1))] 44)).drew.below hb5
         have HU5 := Hd hu5
         have HR5 := Hd hr5
         have HO5 := Hd (slm_own rfl ho5)
         obtain ⟨A5, c5, rfl, hc5, _⟩ := own_rd ho5
         have y3 := hu5.free 3
         have z3 := hu5.cell_ 3 (v := .slice A g.os.length cc) rfl
         have z2 := hu5.cell_ 2 (v := .int .i64 g.round) rfl
         have z1 := hu5.cell_ 1 (v := .int .i64 g.next) rfl
         have z0 := hu5.cell_ 0 (v := .int .i64 g.count) rfl
         have hlu := hu5.lt
         clear ho5 hb5 hx5 hu5 hr5)
      | (go_at_call 154
         refine (clipOwn_p A5 _ c5 _ hc5).mono ?_
         rintro e w6 ⟨_, rfl, rfl, rfl⟩))
    all_goals
      clear q3 d3 y3 z3 z2 z1 z0
      have HM5 : Hid (SlM owE 126 (w3.heap.size + 2) w5 (.slice A5 Ls.length Ls.length) Ls) := by
        obtain ⟨A', c', e', g1, g2, g3⟩ := HO5.out
        injection e' with e1 _ e3
        subst e1
        have hz : ((w4.alloc (.cells #[.slice A k cc, .slice (cutA A cc (k + 1) 2) (g.os.length - (k + 1)) (cc - (k + 1))] 44)).drew).heap.size = w3.heap.size + 2 := by show (w4.alloc _).heap.size = _; simp [hs4]
        rw [hz] at g3
        exact ⟨A5, Ls.length, rfl, Nat.le_refl _, by omega, g3⟩
      have u3 := HU5.out.set_ 3 (.slice A5 Ls.length Ls.length)
      have p0 := u3.cell_ 0 (v := .int .i64 g.count) rfl
      have p1 := u3.cell_ 1 (v := .int .i64 g.next) rfl
      have p2 := u3.cell_ 2 (v := .int .i64 g.round) rfl
      have p3 := u3.cell_ 3 (v := .slice A5 Ls.length Ls.length) rfl
      have r3' := HR5.out.far (p := ⟨w3.heap.size, 3, none⟩) (u := .slice A5 Ls.length Ls.length) hn3
      have r0 := r3'.cell_ 0 (v := .int .i64 0) rfl
      have r1 := r3'.cell_ 1 (v := .int .i64 0) rfl
      have r2 := r3'.cell_ 2 (v := .int .i64 0) rfl
      have r3 := r3'.cell_ 3 (v := .slice none 0 0) rfl
      have f0 := r3'.free 0
      have f1 := r3'.free 1
      have f2 := r3'.free 2
      have f3 := r3'.free 3
      have hlr5 := r3'.lt
      go_wp2
      have o3 := (((r3'.set_ 0 (.int .i64 g.count)).set_ 1 (.int .i64 g.next)).set_ 2 (.int .i64 g.round)).set_ 3 (.slice A5 Ls.length Ls.length)
      have t0 := o3.cell_ 0 (v := .int .i64 g.count) rfl
      have t1 := o3.cell_ 1 (v := .int .i64 g.next) rfl
      have t2 := o3.cell_ 2 (v := .int .i64 g.round) rfl
      have t3 := o3.cell_ 3 (v := .slice A5 Ls.length Ls.length) rfl
      refine bodyPost_ret (v := .tuple #[.agg #[.int .i64 g.count, .int .i64 g.next, .int .i64 g.round, .slice A5 Ls.length Ls.length], .bool true]) (by simp [results, Tryz.results84, go_sem, t0, t1, t2, t3]) rfl ⟨_, rfl, _, by rw [HV.out, HE.out], ?_, ?_⟩
      · rw [HV.out]
        refine SlM.mono ?_ (show w.heap.size ≤ w3.heap.size + 2 by omega)
        repeat (refine SlM.far ?_ (by show _ < w3.heap.size + 2; simp; try omega))
        exact HM5.out
      · repeat (refine bS ?_ (by simp <;> omega))
        exact HB5.out
set_option maxHeartbeats 2000000 in
theorem sLeaveTag_any (vo : Value) (g : Tg) (s : Int) (w : World) (hT : SlR owE w vo g.os) :
  Calls Tryz.prog 86 #[.agg #[.int .i64 g.count, .int .i64 g.next, .int .i64 g.round, vo], .int .i64 s] w (Post2 fun v w' => ∃ v4, v = .tuple #[.agg #[.int .i64 (lvV g s).count, .int .i64 (lvV g s).next, .int .i64 (lvV g s).round, v4], .bool (tgO g s)] ∧ SlM owE 126 w.heap.size w' v4 (lvV g s).os ∧ Below w.heap.size w w') := by
 have HV0 := Hd hT
 obtain ⟨A, cc, rfl, hbc, hbm, hL⟩ := hT
 have hbx := (Own.new_ w 46 #[.int .i64 g.count, .int .i64 g.next, .int .i64 g.round, .slice A g.os.length cc]).alloc (o := .cells #[.int .i64 0, .int .i64 0, .int .i64 0, .slice none 0 0] 46)
 have hbo := ownAt (W := w.alloc (.cells #[.int .i64 g.count, .int .i64 g.next, .int .i64 g.round, .slice A g.os.length cc] 46)) (g := w.heap.size + 1) (t := 46) (cs := #[.int .i64 0, .int .i64 0, .int .i64 0, .slice none 0 0]) (by simp)
 have hb0 : Below w.heap.size w ((w.alloc (.cells #[.int .i64 g.count, .int .i64 g.next, .int .i64 g.round, .slice A g.os.length cc] 46)).alloc (.cells #[.int .i64 0, .int .i64 0, .int .i64 0, .slice none 0 0] 46)) := bA (bA bR)
 have hs0 : ((w.alloc (.cells #[.int .i64 g.count, .int .i64 g.next, .int .i64 g.round, .slice A g.os.length cc] 46)).alloc (.cells #[.int .i64 0, .int .i64 0, .int .i64 0, .slice none 0 0] 46)).heap.size = w.heap.size + 2 := by simp
 generalize hW : (w.alloc (.cells #[.int .i64 g.count, .int .i64 g.next, .int .i64 g.round, .slice A g.os.length cc] 46)).alloc (.cells #[.int .i64 0, .int .i64 0, .int .i64 0, .slice none 0 0] 46) = W0 at hbx hbo hb0 hs0
 have HX0 := Hd hbx
 have HR0 := Hd hbo
 have HB0 := Hd hb0
 have HS0 : Hid (w.heap.size + 2 ≤ W0.heap.size) := Nat.le_of_eq hs0.symm
 have HLR := Hd hL
 clear hbx hbo hb0 hL
 have q0 := HX0.out.cell_ 0 (v := .int .i64 g.count) rfl
 have q1 := HX0.out.cell_ 1 (v := .int .i64 g.next) rfl
 have q2 := HX0.out.cell_ 2 (v := .int .i64 g.round) rfl
 have q3 := HX0.out.cell_ 3 (v := .slice A g.os.length cc) rfl
 go_enter Tryz.func86, Tryz.ntmps86
 go_wp2_with fail
 refine (l5Find_any _ g s _ (HV0.out.now HB0.out)).mono ?_
 rintro e w1 ⟨rfl, hb1⟩
 have HX1 := Hd (HX0.out.below hb1)
 have HR1 := Hd (HR0.out.below hb1)
 have HB1 := Hd (bT HB0.out hb1)
 have HS1 := Hd (Nat.le_trans HS0.out hb1.size)
 clear hb1
 clear q0 q1 q2 q3
 have q0 := HX1.out.cell_ 0 (v := .int .i64 g.count) rfl
 have q1 := HX1.out.cell_ 1 (v := .int .i64 g.next) rfl
 have q2 := HX1.out.cell_ 2 (v := .int .i64 g.round) rfl
 have q3 := HX1.out.cell_ 3 (v := .slice A g.os.length cc) rfl
 go_wp2_with fail
 refine (sTagsValid_any _ g _ (HV0.out.now HB1.out)).mono ?_
 rintro e w2 ⟨rfl, hb2⟩
 have HX2 := Hd (HX1.out.below hb2)
 have HR2 := Hd (HR1.out.below hb2)
 have HB2 := Hd (bT HB1.out hb2)
 have HS2 := Hd (Nat.le_trans HS1.out hb2.size)
 clear hb2
 clear q0 q1 q2 q3
 cases h1 : tgv g with
 | false =>
  have HE := Hd (tgO_no (s := s) h1).1
  have HV := Hd (lvV_no HE.out)
  have r0 := HR2.out.cell_ 0 (v := .int .i64 0) rfl
  have r1 := HR2.out.cell_ 1 (v := .int .i64 0) rfl
  have r2 := HR2.out.cell_ 2 (v := .int .i64 0) rfl
  have r3 := HR2.out.cell_ 3 (v := .slice none 0 0) rfl
  have f0 := HR2.out.free 0
  have f1 := HR2.out.free 1
  have f2 := HR2.out.free 2
  have f3 := HR2.out.free 3
  have hl1 := HR2.out.lt
  go_wp2
  have o3 := (((HR2.out.set_ 0 (.int .i64 0)).set_ 1 (.int .i64 0)).set_ 2 (.int .i64 0)).set_ 3 (.slice none 0 0)
  have t0 := o3.cell_ 0 (v := .int .i64 0) rfl
  have t1 := o3.cell_ 1 (v := .int .i64 0) rfl
  have t2 := o3.cell_ 2 (v := .int .i64 0) rfl
  have t3 := o3.cell_ 3 (v := .slice none 0 0) rfl
  refine bodyPost_ret (v := .tuple #[.agg #[.int .i64 0, .int .i64 0, .int .i64 0, .slice none 0 0], .bool false]) (by simp [results, Tryz.results86, go_sem, t0, t1, t2, t3]) rfl ⟨_, rfl, _, by rw [HV.out, HE.out]; rfl, by rw [HV.out]; exact SlM.nil_ _, ?_⟩
  repeat (refine bS ?_ (by simp <;> omega))
  exact HB2.out
 | true =>
 obtain ⟨⟨b1, b2, b3, b4, b5, b6⟩, htok⟩ := tgv_parts h1
 have hlen := tok_len htok b3
 by_cases h3 : 0 ≤ ownI g.os s
 case neg =>
  have HE := Hd (tgO_neg (g := g) h3).1
  have HV := Hd (lvV_no HE.out)
  have h3b : ownI g.os s < 0 := by omega
  clear h3
  have r0 := HR2.out.cell_ 0 (v := .int .i64 0) rfl
  have r1 := HR2.out.cell_ 1 (v := .int .i64 0) rfl
  have r2 := HR2.out.cell_ 2 (v := .int .i64 0) rfl
  have r3 := HR2.out.cell_ 3 (v := .slice none 0 0) rfl
  have f0 := HR2.out.free 0
  have f1 := HR2.out.free 1
  have f2 := HR2.out.free 2
  have f3 := HR2.out.free 3
  have hl1 := HR2.out.lt
  go_wp2
  have o3 := (((HR2.out.set_ 0 (.int .i64 0)).set_ 1 (.int .i64 0)).set_ 2 (.int .i64 0)).set_ 3 (.slice none 0 0)
  have t0 := o3.cell_ 0 (v := .int .i64 0) rfl
  have t1 := o3.cell_ 1 (v := .int .i64 0) rfl
  have t2 := o3.cell_ 2 (v := .int .i64 0) rfl
  have t3 := o3.cell_ 3 (v := .slice none 0 0) rfl
  refine bodyPost_ret (v := .tuple #[.agg #[.int .i64 0, .int .i64 0, .int .i64 0, .slice none 0 0], .bool false]) (by simp [results, Tryz.results86, go_sem, t0, t1, t2, t3]) rfl ⟨_, rfl, _, by rw [HV.out, HE.out]; rfl, by rw [HV.out]; exact SlM.nil_ _, ?_⟩
  repeat (refine bS ?_ (by simp <;> omega))
  exact HB2.out
 case pos =>
  obtain ⟨k, o, hk, eo, _⟩ := ownI_lt h3
  have HE := Hd (tgO_yes h1 hk eo).1
  have HV := Hd (lvV_at HE.out hk)
  have hkl := (List.getElem?_eq_some_iff.1 eo).1
  have h3b : ¬ (k : Int) < 0 := by omega
  rw [hk]
  clear hk eo h3
  have q0 := HX2.out.cell_ 0 (v := .int .i64 g.count) rfl
  have q1 := HX2.out.cell_ 1 (v := .int .i64 g.next) rfl
  have q2 := HX2.out.cell_ 2 (v := .int .i64 g.round) rfl
  have q3 := HX2.out.cell_ 3 (v := .slice A g.os.length cc) rfl
  go_wp2_with fail
  refine (l5CopyO_any _ g _ (HV0.out.now HB2.out) (by omega)).mono ?_
  rintro e w3 ⟨_, rfl, v1, rfl, hown3, hb3⟩
  obtain ⟨A1, c1, rfl, _⟩ := own_rd hown3
  have HX3 := Hd (HX2.out.below hb3)
  have HR3 := Hd (HR2.out.below hb3)
  have HB3 := Hd (bT HB2.out hb3)
  have HS3 := Hd (Nat.le_trans HS2.out hb3.size)
  clear hb3
  clear q0 q1 q2 q3 hown3
  have ho4 := Own.new_ w3 46 #[.int .i64 g.count, .int .i64 g.next, .int .i64 g.round, .slice A1 g.os.length c1]
  have hb4 : Below w3.heap.size w3 (w3.alloc (.cells #[.int .i64 g.count, .int .i64 g.next, .int .i64 g.round, .slice A1 g.os.length c1] 46)) := bA bR
  have hs4 : (w3.alloc (.cells #[.int .i64 g.count, .int .i64 g.next, .int .i64 g.round, .slice A1 g.os.length c1] 46)).heap.size = w3.heap.size + 1 := by simp
  generalize hW4 : w3.alloc (.cells #[.int .i64 g.count, .int .i64 g.next, .int .i64 g.round, .slice A1 g.os.length c1] 46) = w4 at ho4 hb4 hs4
  have HU4 := Hd ho4
  have hlr3 := HR3.out.lt
  have HX4 := Hd (HX3.out.below hb4)
  have HR4 := Hd (HR3.out.below hb4)
  have HB4 := Hd (bT HB3.out hb4)
  have HS4 := Hd (Nat.le_trans HS3.out hb4.size)
  clear hb4
  clear ho4
  go_upto_region 5 with fail
  try rw [hW4]
  clear hW4
  have q3 := HX4.out.cell_ 3 (v := .slice A g.os.length cc) rfl
  have hch := fun W => cutO_hi A g.os.length cc k (by omega) W
  have hcl := fun W => cutO_lo A g.os.length cc k (by omega) W
  have hwk : IntKind.i64.wrap ((k : Int) + 1) = (k : Int) + 1 := IntWalk.i64_in _ (by omega)
  have hlt1 : (g.os.take k).length = k := by simp; omega
  have hlt2 : (g.os.drop (k + 1)).length = g.os.length - (k + 1) := by simp
  have hbl : Below w.heap.size w (w4.alloc (.cells #[] 126)).drew := bD (bA HB4.out)
  have hol : (w4.alloc (.cells #[] 126)).drew.ownsRow (w3.heap.size + 1) 126 2 (.slice (some ⟨w4.heap.size, 0, none⟩) 0 0) ([] : List (Int × Int)).length (owE.cells []) := owns_lit w4 2 (by omega)
  obtain ⟨v5, w5, hrun5, ho5, hg5⟩ := run_append_os (w3.heap.size + 1) (w4.alloc (.cells #[] 126)).drew _ [] (g.os.take k) A cc hol (rso_to (HLR.out.now (Nat.le_refl _) hbl) (by omega) hbc) (by rw [hlt1]; simp; omega) (by show _ ≤ (w4.alloc _).heap.size; simp; omega)
  have hbk0 := own_block hol
  have hb5 := bG hbl hg5 (fun b hb => by have := hbk0 b hb; omega)
  have hx5 := own_other (HX4.out.alloc (o := .cells #[] 126)).drew hg5 (fun h => by have := hbk0 _ h.symm; omega)
  have hu5 := own_other (HU4.out.alloc (o := .cells #[] 126)).drew hg5 (fun h => by have := hbk0 _ h.symm; omega)
  have hr5 := own_other (HR4.out.alloc (o := .cells #[] 126)).drew hg5 (fun h => by have := hbk0 _ h.symm; omega)
  have hs5 : w3.heap.size + 1 ≤ w5.heap.size := by
   have h7 := hg5.size
   have h9 : (w4.alloc (.cells #[] 126)).drew.heap.size = w4.heap.size + 1 := by show (w4.alloc _).heap.size = _; simp
   omega
  rw [List.nil_append] at ho5
  obtain ⟨v6, w6, hrun6, ho6, hg6⟩ := run_append_os (w3.heap.size + 1) w5 v5 (g.os.take k) (g.os.drop (k + 1)) (cutA A cc (k + 1) 2) (cc - (k + 1)) ho5 (rso_from (HLR.out.now (Nat.le_refl _) hb5) (by omega) hbc) (by rw [hlt1, hlt2]; omega) hs5
  have hbk := own_block ho5
  have HB6 := Hd (bG hb5 hg6 (fun b hb => by have := hbk b hb; omega))
  have hx6 := own_other hx5 hg6 (fun h => by have := hbk _ h.symm; omega)
  have hu6 := own_other hu5 hg6 (fun h => by have := hbk _ h.symm; omega)
  have hr6 := own_other hr5 hg6 (fun h => by have := hbk _ h.symm; omega)
  rw [hs4] at hrun5
  rw [hlt1] at hrun5
  rw [hlt2] at hrun6
  obtain ⟨Ls, hLs⟩ : ∃ L, g.os.take k ++ g.os.drop (k + 1) = L := ⟨_, rfl⟩
  rw [hLs] at ho6
  replace HV := HV.out
  rw [hLs] at HV
  replace HV := Hd HV
  have HM6 := Hd (slm_own rfl ho6)
  obtain ⟨A6, c6, rfl, _⟩ := own_rd ho6
  have d3 := hx5.cell_ 3 (v := .slice A g.os.length cc) rfl
  have e3 := hx6.cell_ 3 (v := .slice A g.os.length cc) rfl
  have y3 := hu6.free 3
  have z3 := hu6.cell_ 3 (v := .slice A1 g.os.length c1) rfl
  have hlu := hu6.lt
  have HU6 := Hd hu6
  have HR6 := Hd hr6
  have hn1 : w.heap.size ≠ w3.heap.size := by omega
  have hn2 : w3.heap.size ≠ w.heap.size := by omega
  have hn3 : w.heap.size + 1 ≠ w3.heap.size := by omega
  have hn4 : w3.heap.size ≠ w.heap.size + 1 := by omega
  clear hLs hlt1 hlt2 hbk0 hbl hol hb5 hx5 hu5 hr5 hs5 ho5 hg5 ho6 hg6 hbk hx6 hu6 hr6
  go_region_held_law (fun w' => w'.cell? ⟨w.heap.size, 3, none⟩ = some (.slice A g.os.length cc)) (go_keep) (first
   | (refine step_append_run rfl (.tmp 21) (.tmp 25) 44 rfl _ _ _ _ rfl rfl hrun5 ?_)
   | (refine step_append_run rfl (.tmp 26) (.tmp 31) 44 rfl _ _ _ _ rfl rfl hrun6 ?_))
  all_goals
   clear q3 d3 e3 y3 z3 hrun5 hrun6
   have u3 := HU6.out.set_ 3 (.slice A6 Ls.length c6)
   have p0 := u3.cell_ 0 (v := .int .i64 g.count) rfl
   have p1 := u3.cell_ 1 (v := .int .i64 g.next) rfl
   have p2 := u3.cell_ 2 (v := .int .i64 g.round) rfl
   have p3 := u3.cell_ 3 (v := .slice A6 Ls.length c6) rfl
   have r3' := HR6.out.far (p := ⟨w3.heap.size, 3, none⟩) (u := .slice A6 Ls.length c6) hn3
   have r0 := r3'.cell_ 0 (v := .int .i64 0) rfl
   have r1 := r3'.cell_ 1 (v := .int .i64 0) rfl
   have r2 := r3'.cell_ 2 (v := .int .i64 0) rfl
   have r3 := r3'.cell_ 3 (v := .slice none 0 0) rfl
   have f0 := r3'.free 0
   have f1 := r3'.free 1
   have f2 := r3'.free 2
   have f3 := r3'.free 3
   have hlr5 := r3'.lt
   go_wp2
   have o3 := (((r3'.set_ 0 (.int .i64 g.count)).set_ 1 (.int .i64 g.next)).set_ 2 (.int .i64 g.round)).set_ 3 (.slice A6 Ls.length c6)
   have t0 := o3.cell_ 0 (v := .int .i64 g.count) rfl
   have t1 := o3.cell_ 1 (v := .int .i64 g.next) rfl
   have t2 := o3.cell_ 2 (v := .int .i64 g.round) rfl
   have t3 := o3.cell_ 3 (v := .slice A6 Ls.length c6) rfl
   refine bodyPost_ret (v := .tuple #[.agg #[.int .i64 g.count, .int .i64 g.next, .int .i64 g.round, .slice A6 Ls.length c6], .bool true]) (by simp [results, Tryz.results86, go_sem, t0, t1, t2, t3]) rfl ⟨_, rfl, _, by rw [HV.out, HE.out], ?_, ?_⟩
   ·rw [HV.out]
    have hf1 : w3.heap.size < w3.heap.size + 1 := by omega
    have hf2 : w.heap.size + 1 < w3.heap.size + 1 := by omega
    have hM8 := ((((HM6.out.far (p := ⟨w3.heap.size, 3, none⟩) (u := .slice A6 Ls.length c6) hf1).far (p := ⟨w.heap.size + 1, 0, none⟩) (u := .int .i64 g.count) hf2).far (p := ⟨w.heap.size + 1, 1, none⟩) (u := .int .i64 g.next) hf2).far (p := ⟨w.heap.size + 1, 2, none⟩) (u := .int .i64 g.round) hf2).far (p := ⟨w.heap.size + 1, 3, none⟩) (u := .slice A6 Ls.length c6) hf2
    exact hM8.mono (show w.heap.size ≤ w3.heap.size + 1 by omega)
   ·repeat (refine bS ?_ (by simp <;> omega))
    exact HB6.out
end Go.Proofs.YtibpnlojlfcpmaaGreatDoor
