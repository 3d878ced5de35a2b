/- A part of the proofs of this seat: TagS. -/
import Derived.Below
import Derived.Test.YtibpnlojlfcpmaaGreatDoorRLink
set_option linter.unusedVariables false
set_option linter.unusedSimpArgs false
set_option maxRecDepth 1000000
namespace Go.Proofs.YtibpnlojlfcpmaaGreatDoor
open Go.RowKit
theorem run_append_o (base : Nat) (W : World) (v : Value) (n : Nat) (l : List (Int × Int)) (x : Int × Int) (hown : W.ownsRow base 126 2 v n (owE.cells l)) (hn : l.length = n) (hs : n ≤ 1048576) (hb : base ≤ W.heap.size) :
  ∃ v' w', (Builtin.append_ #[44, 44] 44 #[v, .slice (some ⟨W.heap.size, 0, none⟩) 1 1]).run Tryz.prog (W.alloc (.cells #[.int .i64 x.1, .int .i64 x.2] 126)) = .ok v' w' ∧
   w'.ownsRow base 126 2 v' (n + 1) (owE.cells (l ++ [x])) ∧ (W.alloc (.cells #[.int .i64 x.1, .int .i64 x.2] 126)).grownBy w' v.ownBlock ∧ (v'.ownBlock = v.ownBlock ∨ v'.ownBlock = some (W.heap.size + 1)) := by
 obtain ⟨i0, hi0, hz0, hz1, hz2⟩ := info_parts ow_info
 exact run_append_el owE 44 126 i0 _ 16 Tryz.underlying44 hi0 hz0 hz1 hz2 rfl (by omega) base W v n l x hown hn hs hb
theorem l5CopyO_any (vo : Value) (g : Tg) (w : World) (hT : SlR owE w vo g.os) (hl : g.os.length ≤ 1048576) :
    Calls Tryz.prog 159 #[.agg #[.int .i64 g.count, .int .i64 g.next, .int .i64 g.round, vo]] w (Post2 fun v w' => ∃ v1, v = .agg #[.int .i64 g.count, .int .i64 g.next, .int .i64 g.round, v1] ∧ w'.ownsRow w.heap.size 126 2 v1 g.os.length (owE.cells g.os) ∧ Below w.heap.size w w') := by
  obtain ⟨A, cc, rfl, hbc, hbm, hL⟩ := hT
  obtain ⟨i0, hi0, hz0, hz1, hz2⟩ := info_parts ow_info
  have hbx := (Own.new_ w 46 #[.int .i64 g.count, .int .i64 g.next, .int .i64 g.round, .slice A g.os.length cc]).alloc (o := .cells #[.int .i64 0, .int .i64 0, .int .i64 0, .slice none 0 0] 46)
  have hbo := ownAt (W := w.alloc (.cells #[.int .i64 g.count, .int .i64 g.next, .int .i64 g.round, .slice A g.os.length cc] 46)) (g := w.heap.size + 1) (t := 46) (cs := #[.int .i64 0, .int .i64 0, .int .i64 0, .slice none 0 0]) (by simp)
  have hb0 : Below w.heap.size w ((w.alloc (.cells #[.int .i64 g.count, .int .i64 g.next, .int .i64 g.round, .slice A g.os.length cc] 46)).alloc (.cells #[.int .i64 0, .int .i64 0, .int .i64 0, .slice none 0 0] 46)) := bA (bA bR)
  have hs0 : ((w.alloc (.cells #[.int .i64 g.count, .int .i64 g.next, .int .i64 g.round, .slice A g.os.length cc] 46)).alloc (.cells #[.int .i64 0, .int .i64 0, .int .i64 0, .slice none 0 0] 46)).heap.size = w.heap.size + 2 := by simp
  generalize hW : (w.alloc (.cells #[.int .i64 g.count, .int .i64 g.next, .int .i64 g.round, .slice A g.os.length cc] 46)).alloc (.cells #[.int .i64 0, .int .i64 0, .int .i64 0, .slice none 0 0] 46) = W0 at hbx hbo hb0 hs0
  have q0 := hbx.cell_ 0 (v := .int .i64 g.count) rfl
  have q1 := hbx.cell_ 1 (v := .int .i64 g.next) rfl
  have q2 := hbx.cell_ 2 (v := .int .i64 g.round) rfl
  have q3 := hbx.cell_ 3 (v := .slice A g.os.length cc) rfl
  have HX0 := Hd hbx
  have HO0 := Hd hbo
  have HB0 := Hd hb0
  have HL := Hd hL
  clear hbx hbo hb0 hL
  go_enter Tryz.func159, Tryz.ntmps159
  go_wp2
  go_region_held_law (fun w' => w'.cell? ⟨w.heap.size, 0, none⟩ = some (.int .i64 g.count) ∧ w'.cell? ⟨w.heap.size, 1, none⟩ = some (.int .i64 g.next) ∧ w'.cell? ⟨w.heap.size, 2, none⟩ = some (.int .i64 g.round) ∧ w'.cell? ⟨w.heap.size, 3, none⟩ = some (.slice A g.os.length cc)) (go_keep) (first
    | (refine step_copy owE 44 44 126 i0 _ _ Tryz.underlying44 hi0 hz0 hz1 hz2 rfl (by omega) (w.heap.size + 2) rfl (.tmp 9) (.tmp 11) rfl rfl _ A cc g.os rfl rfl (ownAt (W := W0) (by simp [hs0])) (by simp <;> omega) w.heap.size (HL.out.below (bA (bD HB0.out))) hl (by simp [hs0] <;> omega) ?_
       intro v1 w1 hown1 hg1
       have hm1 := slm_own rfl hown1
       obtain ⟨A1, c1, rfl, _⟩ := slm_own rfl hown1
       have HB1 : Hid (Below w.heap.size w w1) := bG (bA (bD HB0.out)) hg1 (fun k hk => by injection hk with hk; omega)
       have hx1 := own_other (HX0.out.drew.alloc (o := .cells #[] 126)) hg1 (by simp <;> omega)
       have ho1 := own_other (HO0.out.drew.alloc (o := .cells #[] 126)) hg1 (by simp <;> omega)
       have d0 := hx1.cell_ 0 (v := .int .i64 g.count) rfl
       have d1 := hx1.cell_ 1 (v := .int .i64 g.next) rfl
       have d2 := hx1.cell_ 2 (v := .int .i64 g.round) rfl
       have d3 := hx1.cell_ 3 (v := .slice A g.os.length cc) rfl
       have p0 := ho1.free 0
       have p1 := ho1.free 1
       have p2 := ho1.free 2
       have p3 := ho1.free 3
       have e0 := ho1.cell_ 0 (v := .int .i64 0) rfl
       have e1 := ho1.cell_ 1 (v := .int .i64 0) rfl
       have e2 := ho1.cell_ 2 (v := .int .i64 0) rfl
       have e3 := ho1.cell_ 3 (v := .slice none 0 0) rfl
       have HO1 := Hd ho1
       have HM1 := Hd hown1
       clear hown1 hg1 hx1 ho1 hm1))
  all_goals
    go_wp2
    have o3 := (((HO1.out.set_ 0 (.int .i64 g.count)).set_ 1 (.int .i64 g.next)).set_ 2 (.int .i64 g.round)).set_ 3 (.slice A1 g.os.length c1)
    have t0 := o3.cell_ 0 (v := .int .i64 g.count) rfl
    have t1 := o3.cell_ 1 (v := .int .i64 g.next) rfl
    have t2 := o3.cell_ 2 (v := .int .i64 g.round) rfl
    have t3 := o3.cell_ 3 (v := .slice A1 g.os.length c1) rfl
    have hM := ownsRow_setCell_below (ownsRow_setCell_below (ownsRow_setCell_below (ownsRow_setCell_below HM1.out (a := ⟨w.heap.size + 1, 0, none⟩) (by show w.heap.size + 1 < w.heap.size + 2; omega) (.int .i64 g.count)) (a := ⟨w.heap.size + 1, 1, none⟩) (by show w.heap.size + 1 < w.heap.size + 2; omega) (.int .i64 g.next)) (a := ⟨w.heap.size + 1, 2, none⟩) (by show w.heap.size + 1 < w.heap.size + 2; omega) (.int .i64 g.round)) (a := ⟨w.heap.size + 1, 3, none⟩) (by show w.heap.size + 1 < w.heap.size + 2; omega) (.slice A1 g.os.length c1)
    refine bodyPost_ret (v := .agg #[.int .i64 g.count, .int .i64 g.next, .int .i64 g.round, .slice A1 g.os.length c1]) (by simp [results, Tryz.results159, go_sem, t0, t1, t2, t3]) rfl ⟨_, rfl, _, rfl, own_mono hM (by omega), bS (bS (bS (bS HB1.out (by simp)) (by simp)) (by simp)) (by simp)⟩
theorem takG_no {g : Tg} {s : Int} (h : (tgv g && inR s 16) = false) : takG g s = (tgz, 0, false, false) := by unfold takG; rw [h]; rfl
theorem takG_old {g : Tg} {s : Int} (h : (tgv g && inR s 16) = true) {k : Nat} {o : Int × Int} (hk : ownI g.os s = (k : Int)) (eo : g.os[k]? = some o) : takG g s = (g, o.2, false, true) := by
 unfold takG
 rw [if_pos h]
 unfold ownI at hk
 cases e : own g.os s with
 | none => rw [e] at hk; simp at hk
 | some i =>
  rw [e] at hk
  simp only at hk
  obtain rfl : i = k := by omega
  simp only
  rw [List.getD_eq_getElem?_getD, eo]
  rfl
theorem own_of_neg {os : List (Int × Int)} {s : Int} (h : ¬ 0 ≤ ownI os s) : own os s = none := by
 unfold ownI at h
 cases e : own os s with
 | none => rfl
 | some i => rw [e] at h; simp at h
theorem takG_end {g : Tg} {s : Int} (h : (tgv g && inR s 16) = true) (hk : ¬ 0 ≤ ownI g.os s) (h1 : g.next = g.count) (h2 : g.round = 1000000) : takG g s = (tgz, 0, false, false) := by
 unfold takG
 rw [if_pos h, own_of_neg hk]
 simp only
 rw [if_pos h1, if_pos h2]
theorem takG_fresh {g : Tg} {s : Int} (h : (tgv g && inR s 16) = true) (hk : ¬ 0 ≤ ownI g.os s) (h1 : g.next = g.count) (h2 : ¬ g.round = 1000000) : takG g s = (⟨g.count, 1, g.round + 1, [(s, 0)]⟩, 0, true, true) := by
 unfold takG
 rw [if_pos h, own_of_neg hk]
 simp only
 rw [if_pos h1, if_neg h2]
theorem takG_new {g : Tg} {s : Int} (h : (tgv g && inR s 16) = true) (hk : ¬ 0 ≤ ownI g.os s) (h1 : ¬ g.next = g.count) : takG g s = (⟨g.count, g.next + 1, g.round, g.os ++ [(s, g.next)]⟩, g.next, false, true) := by
 unfold takG
 rw [if_pos h, own_of_neg hk]
 simp only
 rw [if_neg h1]
theorem MineE.farTg {α : Type} {E : Enc α} {e ty : TypeId} {B g i : Nat} {w : World} {A : Option Addr} {l : List α} {cs : Array Value} {u : Value} (h : MineE E e B w A l) (ho : Own w g ty cs) (hne : ty ≠ e) : MineE E e B (w.setCell ⟨g, i, none⟩ u) A l := by
 rcases Nat.eq_zero_or_pos l.length with hl | hl
 ·exact ⟨⟨h.is.len, fun hn => absurd hn (by omega)⟩, fun hn => absurd hn (by omega)⟩
 ·obtain ⟨g2, cs2, rfl, _, ho2, _⟩ := h.own hl
  refine h.other (p := ⟨g, i, none⟩) (fun hg => ?_)
  replace hg : g = g2 := hg
  subst hg
  unfold Own at ho ho2
  rw [ho] at ho2
  injection ho2 with ho2
  injection ho2 with _ ho2
  exact hne ho2
theorem SlM.farTg {α : Type} {E : Enc α} {e ty : TypeId} {B g i : Nat} {w : World} {v : Value} {l : List α} {cs : Array Value} {u : Value} (h : SlM E e B w v l) (ho : Own w g ty cs) (hne : ty ≠ e) : SlM E e B (w.setCell ⟨g, i, none⟩ u) v l := by
 obtain ⟨A, c, h1, h2, h3, h4⟩ := h
 exact ⟨A, c, h1, h2, h3, h4.farTg ho hne⟩
set_option maxHeartbeats 4000000 in
theorem sTakeTag_any (vo : Value) (g : Tg) (s : Int) (w : World) (hT : SlR owE w vo g.os) :
  Calls Tryz.prog 220 #[.agg #[.int .i64 g.count, .int .i64 g.next, .int .i64 g.round, vo], .int .i64 s] w (Post2 fun v w' => ∃ v4, v = .tuple #[.agg #[.int .i64 (takG g s).1.count, .int .i64 (takG g s).1.next, .int .i64 (takG g s).1.round, v4], .int .i64 (takG g s).2.1, .bool (takG g s).2.2.1, .bool (takG g s).2.2.2] ∧ SlM owE 126 w.heap.size w' v4 (takG g s).1.os ∧ Below w.heap.size w w') := by
 have HV0 := Hd hT
 obtain ⟨A, cc, rfl, hbc, hbm, hL⟩ := hT
 have hbx := (Own.new_ w 46 #[.int .i64 g.count, .int .i64 g.next, .int .i64 g.round, .slice A g.os.length cc]).alloc (o := .cells #[.int .i64 0, .int .i64 0, .int .i64 0, .slice none 0 0] 46)
 have hbo := ownAt (W := w.alloc (.cells #[.int .i64 g.count, .int .i64 g.next, .int .i64 g.round, .slice A g.os.length cc] 46)) (g := w.heap.size + 1) (t := 46) (cs := #[.int .i64 0, .int .i64 0, .int .i64 0, .slice none 0 0]) (by simp)
 have hb0 : Below w.heap.size w ((w.alloc (.cells #[.int .i64 g.count, .int .i64 g.next, .int .i64 g.round, .slice A g.os.length cc] 46)).alloc (.cells #[.int .i64 0, .int .i64 0, .int .i64 0, .slice none 0 0] 46)) := bA (bA bR)
 have hs0 : ((w.alloc (.cells #[.int .i64 g.count, .int .i64 g.next, .int .i64 g.round, .slice A g.os.length cc] 46)).alloc (.cells #[.int .i64 0, .int .i64 0, .int .i64 0, .slice none 0 0] 46)).heap.size = w.heap.size + 2 := by simp
 generalize hW : (w.alloc (.cells #[.int .i64 g.count, .int .i64 g.next, .int .i64 g.round, .slice A g.os.length cc] 46)).alloc (.cells #[.int .i64 0, .int .i64 0, .int .i64 0, .slice none 0 0] 46) = W0 at hbx hbo hb0 hs0
 have HX0 := Hd hbx
 have HR0 := Hd hbo
 have HB0 := Hd hb0
 have HS0 : Hid (w.heap.size + 2 ≤ W0.heap.size) := Nat.le_of_eq hs0.symm
 have HLR := Hd hL
 clear hbx hbo hb0 hL
 have q0 := HX0.out.cell_ 0 (v := .int .i64 g.count) rfl
 have q1 := HX0.out.cell_ 1 (v := .int .i64 g.next) rfl
 have q2 := HX0.out.cell_ 2 (v := .int .i64 g.round) rfl
 have q3 := HX0.out.cell_ 3 (v := .slice A g.os.length cc) rfl
 go_enter Tryz.func220, Tryz.ntmps220
 go_wp2_with fail
 refine (sTagsValid_any _ g _ (HV0.out.now HB0.out)).mono ?_
 rintro e w1 ⟨rfl, hb1⟩
 have HX1 := Hd (HX0.out.below hb1)
 have HR1 := Hd (HR0.out.below hb1)
 have HB1 := Hd (bT HB0.out hb1)
 have HS1 := Hd (Nat.le_trans HS0.out hb1.size)
 clear hb1
 clear q0 q1 q2 q3
 cases h1 : tgv g with
 | false =>
  have HV := Hd (takG_no (g := g) (s := s) (by rw [h1]; rfl))
  have r0 := HR1.out.cell_ 0 (v := .int .i64 0) rfl
  have r1 := HR1.out.cell_ 1 (v := .int .i64 0) rfl
  have r2 := HR1.out.cell_ 2 (v := .int .i64 0) rfl
  have r3 := HR1.out.cell_ 3 (v := .slice none 0 0) rfl
  have f0 := HR1.out.free 0
  have f1 := HR1.out.free 1
  have f2 := HR1.out.free 2
  have f3 := HR1.out.free 3
  have hl1 := HR1.out.lt
  go_wp2
  have o3 := (((HR1.out.set_ 0 (.int .i64 0)).set_ 1 (.int .i64 0)).set_ 2 (.int .i64 0)).set_ 3 (.slice none 0 0)
  have t0 := o3.cell_ 0 (v := .int .i64 0) rfl
  have t1 := o3.cell_ 1 (v := .int .i64 0) rfl
  have t2 := o3.cell_ 2 (v := .int .i64 0) rfl
  have t3 := o3.cell_ 3 (v := .slice none 0 0) rfl
  refine bodyPost_ret (v := .tuple #[.agg #[.int .i64 0, .int .i64 0, .int .i64 0, .slice none 0 0], .int .i64 0, .bool false, .bool false]) (by simp [results, Tryz.results220, go_sem, t0, t1, t2, t3]) rfl ⟨_, rfl, _, by rw [HV.out]; rfl, by rw [HV.out]; exact SlM.nil_ _, ?_⟩
  repeat (refine bS ?_ (by simp <;> omega))
  exact HB1.out
 | true =>
 cases h2 : inR s 16 with
 | false =>
  have HV := Hd (takG_no (g := g) (s := s) (by rw [h2, Bool.and_false]))
  go_wp2_with fail
  refine (l1Space_any _ _).mono ?_
  rintro e w' ⟨rfl, rfl⟩
  rw [h2]
  have r0 := HR1.out.cell_ 0 (v := .int .i64 0) rfl
  have r1 := HR1.out.cell_ 1 (v := .int .i64 0) rfl
  have r2 := HR1.out.cell_ 2 (v := .int .i64 0) rfl
  have r3 := HR1.out.cell_ 3 (v := .slice none 0 0) rfl
  have f0 := HR1.out.free 0
  have f1 := HR1.out.free 1
  have f2 := HR1.out.free 2
  have f3 := HR1.out.free 3
  have hl1 := HR1.out.lt
  go_wp2
  have o3 := (((HR1.out.set_ 0 (.int .i64 0)).set_ 1 (.int .i64 0)).set_ 2 (.int .i64 0)).set_ 3 (.slice none 0 0)
  have t0 := o3.cell_ 0 (v := .int .i64 0) rfl
  have t1 := o3.cell_ 1 (v := .int .i64 0) rfl
  have t2 := o3.cell_ 2 (v := .int .i64 0) rfl
  have t3 := o3.cell_ 3 (v := .slice none 0 0) rfl
  refine bodyPost_ret (v := .tuple #[.agg #[.int .i64 0, .int .i64 0, .int .i64 0, .slice none 0 0], .int .i64 0, .bool false, .bool false]) (by simp [results, Tryz.results220, go_sem, t0, t1, t2, t3]) rfl ⟨_, rfl, _, by rw [HV.out]; rfl, by rw [HV.out]; exact SlM.nil_ _, ?_⟩
  repeat (refine bS ?_ (by simp <;> omega))
  exact HB1.out
 | true =>
 have hgs : (tgv g && inR s 16) = true := by rw [h1, h2]; rfl
 obtain ⟨⟨b1, b2, b3, b4, b5, b6⟩, htok⟩ := tgv_parts h1
 have hlen := tok_len htok b3
 go_wp2_with fail
 refine (l1Space_any _ _).mono ?_
 rintro e w' ⟨rfl, rfl⟩
 rw [h2]
 have q0 := HX1.out.cell_ 0 (v := .int .i64 g.count) rfl
 have q1 := HX1.out.cell_ 1 (v := .int .i64 g.next) rfl
 have q2 := HX1.out.cell_ 2 (v := .int .i64 g.round) rfl
 have q3 := HX1.out.cell_ 3 (v := .slice A g.os.length cc) rfl
 go_wp2_with fail
 refine (l5CopyO_any _ g _ (HV0.out.now HB1.out) (by omega)).mono ?_
 rintro e w3 ⟨_, rfl, v1, rfl, hown3, hb3⟩
 have hs1 := HS1.out
 have hlr1 := HR1.out.lt
 have HX3 := Hd (HX1.out.below hb3)
 have HR3 := Hd (HR1.out.below hb3)
 have HB3 := Hd (bT HB1.out hb3)
 have HS3 := Hd (Nat.le_trans HS1.out hb3.size)
 clear hb3
 clear q0 q1 q2 q3
 obtain ⟨A1, c1, rfl, hc1, hm1, _⟩ := own_rd hown3
 have ho4 := Own.new_ w3 46 #[.int .i64 g.count, .int .i64 g.next, .int .i64 g.round, .slice A1 g.os.length c1]
 have hb4 : Below w3.heap.size w3 (w3.alloc (.cells #[.int .i64 g.count, .int .i64 g.next, .int .i64 g.round, .slice A1 g.os.length c1] 46)) := bA bR
 have hown4 := own_mono (own_kept hown3 hb4) hs1
 generalize hW4 : w3.alloc (.cells #[.int .i64 g.count, .int .i64 g.next, .int .i64 g.round, .slice A1 g.os.length c1] 46) = w4 at ho4 hb4 hown4
 have HU4 := Hd ho4
 have HN4 := Hd hown4
 have HX4 := Hd (HX3.out.below hb4)
 have HR4 := Hd (HR3.out.below hb4)
 have HB4 := Hd (bT HB3.out hb4)
 have HS4 := Hd (Nat.le_trans HS3.out hb4.size)
 clear hb4
 clear hown3 hown4 ho4
 have q0 := HX4.out.cell_ 0 (v := .int .i64 g.count) rfl
 have q1 := HX4.out.cell_ 1 (v := .int .i64 g.next) rfl
 have q2 := HX4.out.cell_ 2 (v := .int .i64 g.round) rfl
 have q3 := HX4.out.cell_ 3 (v := .slice A g.os.length cc) rfl
 go_wp2_with fail
 refine (l5Find_any _ g s _ (HV0.out.now HB4.out)).mono ?_
 rintro e w5 ⟨rfl, hb5⟩
 have HU5 := Hd (HU4.out.below hb5)
 have HN5 := Hd (own_kept HN4.out hb5)
 have HX5 := Hd (HX4.out.below hb5)
 have HR5 := Hd (HR4.out.below hb5)
 have HB5 := Hd (bT HB4.out hb5)
 have HS5 := Hd (Nat.le_trans HS4.out hb5.size)
 clear hb5
 clear q0 q1 q2 q3 hW4
 have p0 := HU5.out.cell_ 0 (v := .int .i64 g.count) rfl
 have p1 := HU5.out.cell_ 1 (v := .int .i64 g.next) rfl
 have p2 := HU5.out.cell_ 2 (v := .int .i64 g.round) rfl
 have p3 := HU5.out.cell_ 3 (v := .slice A1 g.os.length c1) rfl
 have hlu := HU5.out.lt
 have hlr := HR5.out.lt
 by_cases h3 : 0 ≤ ownI g.os s
 case pos =>
  obtain ⟨k, o, hk, eo, _⟩ := ownI_lt h3
  have HV := Hd (takG_old hgs hk eo)
  rw [hk]
  obtain ⟨b, ob, rfl, hbb, d0, d1⟩ := (HLR.out.below HB5.out).ow eo
  have hbb5 : b < w5.heap.size := Nat.lt_of_lt_of_le hbb HB5.out.size
  have hkl := (List.getElem?_eq_some_iff.1 eo).1
  have q3 := HX5.out.cell_ 3 (v := .slice (some ⟨b, ob, none⟩) g.os.length cc) rfl
  have r0 := HR5.out.cell_ 0 (v := .int .i64 0) rfl
  have r1 := HR5.out.cell_ 1 (v := .int .i64 0) rfl
  have r2 := HR5.out.cell_ 2 (v := .int .i64 0) rfl
  have r3 := HR5.out.cell_ 3 (v := .slice none 0 0) rfl
  have f0 := HR5.out.free 0
  have f1 := HR5.out.free 1
  have f2 := HR5.out.free 2
  have f3 := HR5.out.free 3
  have hne1 : w.heap.size + 1 ≠ b := by omega
  have hne2 : b ≠ w.heap.size + 1 := by omega
  have hne3 : w3.heap.size ≠ w.heap.size + 1 := by have := HR3.out.lt; omega
  have hne4 : w.heap.size + 1 ≠ w3.heap.size := by have := HR3.out.lt; omega
  have hlx := HX5.out.lt
  clear hk eo d0 h3
  go_wp2
  go_region_held_law (fun w' => w'.cell? ⟨w3.heap.size, 0, none⟩ = some (.int .i64 g.count) ∧ w'.cell? ⟨w3.heap.size, 1, none⟩ = some (.int .i64 g.next) ∧ w'.cell? ⟨w3.heap.size, 2, none⟩ = some (.int .i64 g.round) ∧ w'.cell? ⟨w3.heap.size, 3, none⟩ = some (.slice A1 g.os.length c1) ∧ w'.cell? ⟨w.heap.size, 3, none⟩ = some (.slice (some ⟨b, ob, none⟩) g.os.length cc) ∧ w'.cell? ⟨b, ob + k * 2 + 1, none⟩ = some (.int .i64 o.2)) (go_keep) (fail)
  all_goals
   clear p0 p1 p2 p3 d1 q3
   go_wp2
   have o3 := (((HR5.out.set_ 0 (.int .i64 g.count)).set_ 1 (.int .i64 g.next)).set_ 2 (.int .i64 g.round)).set_ 3 (.slice A1 g.os.length c1)
   have t0 := o3.cell_ 0 (v := .int .i64 g.count) rfl
   have t1 := o3.cell_ 1 (v := .int .i64 g.next) rfl
   have t2 := o3.cell_ 2 (v := .int .i64 g.round) rfl
   have t3 := o3.cell_ 3 (v := .slice A1 g.os.length c1) rfl
   have hM := ((((slm_own rfl HN5.out).far (p := ⟨w.heap.size + 1, 0, none⟩) (u := .int .i64 g.count) (by show w.heap.size + 1 < w.heap.size + 2; omega)).far (p := ⟨w.heap.size + 1, 1, none⟩) (u := .int .i64 g.next) (by show w.heap.size + 1 < w.heap.size + 2; omega)).far (p := ⟨w.heap.size + 1, 2, none⟩) (u := .int .i64 g.round) (by show w.heap.size + 1 < w.heap.size + 2; omega)).far (p := ⟨w.heap.size + 1, 3, none⟩) (u := .slice A1 g.os.length c1) (by show w.heap.size + 1 < w.heap.size + 2; omega)
   refine bodyPost_ret (v := .tuple #[.agg #[.int .i64 g.count, .int .i64 g.next, .int .i64 g.round, .slice A1 g.os.length c1], .int .i64 o.2, .bool false, .bool true]) (by simp [results, Tryz.results220, go_sem, t0, t1, t2, t3]) rfl ⟨_, rfl, _, by rw [HV.out], by rw [HV.out]; exact (hM.now (bD bR)).mono (by omega), ?_⟩
   refine bD ?_
   repeat (refine bS ?_ (by simp <;> omega))
   exact HB5.out
 case neg =>
  have h3b : ¬ 0 ≤ ownI g.os s := h3
  have q0 := HX5.out.cell_ 0 (v := .int .i64 g.count) rfl
  have q1 := HX5.out.cell_ 1 (v := .int .i64 g.next) rfl
  have q2 := HX5.out.cell_ 2 (v := .int .i64 g.round) rfl
  have hlx := HX5.out.lt
  by_cases h4 : g.next = g.count
  ·have HVE : Hid (g.round = 1000000 → takG g s = (tgz, 0, false, false)) := fun h5 => takG_end hgs h3 h4 h5
   have HVF : Hid (¬ g.round = 1000000 → takG g s = (⟨g.count, 1, g.round + 1, [(s, 0)]⟩, 0, true, true)) := fun h5 => takG_fresh hgs h3 h4 h5
   clear hgs h1 htok HV0 HLR
   generalize hgn : g.next = gn at *
   subst h4
   clear hgn
   have m0 := HU5.out.free 0
   have m1 := HU5.out.free 1
   have m2 := HU5.out.free 2
   have m3 := HU5.out.free 3
   by_cases h5 : g.round = 1000000
   ·have HV := Hd (HVE.out h5)
    have h5b : (1000000 : Int) < g.round + 1 := by omega
    clear h5 HVE HVF
    have r0 := HR5.out.cell_ 0 (v := .int .i64 0) rfl
    have r1 := HR5.out.cell_ 1 (v := .int .i64 0) rfl
    have r2 := HR5.out.cell_ 2 (v := .int .i64 0) rfl
    have r3 := HR5.out.cell_ 3 (v := .slice none 0 0) rfl
    have f0 := HR5.out.free 0
    have f1 := HR5.out.free 1
    have f2 := HR5.out.free 2
    have f3 := HR5.out.free 3
    have hne3 : w3.heap.size ≠ w.heap.size + 1 := by have := HR3.out.lt; omega
    have hne4 : w.heap.size + 1 ≠ w3.heap.size := by have := HR3.out.lt; omega
    go_wp2
    have o3 := ((((((((HR5.out.far (p := ⟨w3.heap.size, 0, none⟩) (u := .int .i64 g.count) hne4).far (p := ⟨w3.heap.size, 1, none⟩) (u := .int .i64 0) hne4).far (p := ⟨w3.heap.size, 2, none⟩) (u := .int .i64 (g.round + 1)) hne4).far (p := ⟨w3.heap.size, 3, none⟩) (u := .slice (some ⟨w5.heap.size, 0, none⟩) 0 0) hne4).set_ 0 (.int .i64 0)).set_ 1 (.int .i64 0)).set_ 2 (.int .i64 0)).set_ 3 (.slice none 0 0)).alloc (o := .cells #[] 126)
    have t0 := o3.cell_ 0 (v := .int .i64 0) rfl
    have t1 := o3.cell_ 1 (v := .int .i64 0) rfl
    have t2 := o3.cell_ 2 (v := .int .i64 0) rfl
    have t3 := o3.cell_ 3 (v := .slice none 0 0) rfl
    refine bodyPost_ret (v := .tuple #[.agg #[.int .i64 0, .int .i64 0, .int .i64 0, .slice none 0 0], .int .i64 0, .bool false, .bool false]) (by simp [results, Tryz.results220, go_sem] at t0 t1 t2 t3 ⊢; simp [results, Tryz.results220, go_sem, t0, t1, t2, t3]) rfl ⟨_, rfl, _, by rw [HV.out]; rfl, by rw [HV.out]; exact SlM.nil_ _, ?_⟩
    have hlw3 : w.heap.size ≤ w3.heap.size := by have := HR3.out.lt; omega
    refine bA ?_
    repeat (refine bS ?_ (by simp <;> omega))
    exact HB5.out
   ·have HV := Hd (HVF.out h5)
    have h5b : g.round + 1 ≤ 1000000 := by omega
    have h5c : ¬ (1000000 : Int) < g.round + 1 := by omega
    clear h5 HVE HVF
    have hne4 : w.heap.size + 1 ≠ w3.heap.size := by have := HR3.out.lt; omega
    have hlw3 : w.heap.size ≤ w3.heap.size := by have := HR3.out.lt; omega
    have HR6 := Hd (((((HR5.out.far (p := ⟨w3.heap.size, 0, none⟩) (u := .int .i64 g.count) hne4).far (p := ⟨w3.heap.size, 1, none⟩) (u := .int .i64 0) hne4).far (p := ⟨w3.heap.size, 2, none⟩) (u := .int .i64 (g.round + 1)) hne4).far (p := ⟨w3.heap.size, 3, none⟩) (u := .slice (some ⟨w5.heap.size, 0, none⟩) 0 0) hne4).alloc (o := .cells #[] 126))
    have HU6 := Hd (((((HU5.out.set_ 0 (.int .i64 g.count)).set_ 1 (.int .i64 0)).set_ 2 (.int .i64 (g.round + 1))).set_ 3 (.slice (some ⟨w5.heap.size, 0, none⟩) 0 0)).alloc (o := .cells #[] 126))
    have HB6 : Hid (Below w.heap.size w ((((((w5.setCell ⟨w3.heap.size, 0, none⟩ (.int .i64 g.count)).setCell ⟨w3.heap.size, 1, none⟩ (.int .i64 0)).setCell ⟨w3.heap.size, 2, none⟩ (.int .i64 (g.round + 1))).setCell ⟨w3.heap.size, 3, none⟩ (.slice (some ⟨w5.heap.size, 0, none⟩) 0 0))).alloc (.cells #[] 126))) := bA (bS (bS (bS (bS HB5.out hlw3) hlw3) hlw3) hlw3)
    have HS6 : Hid (w.heap.size + 2 ≤ (((((((w5.setCell ⟨w3.heap.size, 0, none⟩ (.int .i64 g.count)).setCell ⟨w3.heap.size, 1, none⟩ (.int .i64 0)).setCell ⟨w3.heap.size, 2, none⟩ (.int .i64 (g.round + 1))).setCell ⟨w3.heap.size, 3, none⟩ (.slice (some ⟨w5.heap.size, 0, none⟩) 0 0))).alloc (.cells #[] 126))).heap.size) := Nat.le_trans HS5.out (by simp)
    have HN6 : Hid ((((((((w5.setCell ⟨w3.heap.size, 0, none⟩ (.int .i64 g.count)).setCell ⟨w3.heap.size, 1, none⟩ (.int .i64 0)).setCell ⟨w3.heap.size, 2, none⟩ (.int .i64 (g.round + 1))).setCell ⟨w3.heap.size, 3, none⟩ (.slice (some ⟨w5.heap.size, 0, none⟩) 0 0))).alloc (.cells #[] 126))).ownsRow (w.heap.size + 2) 126 2 (.slice (some ⟨w5.heap.size, 0, none⟩) 0 0) 0 (owE.cells [])) := by
     have h := World.ownsRow_lit (base := w.heap.size + 2) (e := 126) (size := 2) ((((w5.setCell ⟨w3.heap.size, 0, none⟩ (.int .i64 g.count)).setCell ⟨w3.heap.size, 1, none⟩ (.int .i64 0)).setCell ⟨w3.heap.size, 2, none⟩ (.int .i64 (g.round + 1))).setCell ⟨w3.heap.size, 3, none⟩ (.slice (some ⟨w5.heap.size, 0, none⟩) 0 0)) #[] 0 (by simpa using HS5.out) (by simp [maxLen]) rfl
     rw [show owE.cells ([] : List (Int × Int)) = [] from rfl]
     refine Hd ?_
     simpa using h
    obtain ⟨v7, w7, hrun, hown7, hg7, hob7⟩ := run_append_o (w.heap.size + 2) ((((((w5.setCell ⟨w3.heap.size, 0, none⟩ (.int .i64 g.count)).setCell ⟨w3.heap.size, 1, none⟩ (.int .i64 0)).setCell ⟨w3.heap.size, 2, none⟩ (.int .i64 (g.round + 1))).setCell ⟨w3.heap.size, 3, none⟩ (.slice (some ⟨w5.heap.size, 0, none⟩) 0 0))).alloc (.cells #[] 126)) (.slice (some ⟨w5.heap.size, 0, none⟩) 0 0) 0 [] (s, 0) HN6.out rfl (by first | decide | omega) HS6.out
    have hb7 := bG (bA HB6.out (o := .cells #[.int .i64 s, .int .i64 0] 126)) hg7 (own_block (own_mono HN6.out (by omega)))
    have hra := HR6.out.alloc (o := .cells #[.int .i64 s, .int .i64 0] 126)
    have hua := HU6.out.alloc (o := .cells #[.int .i64 s, .int .i64 0] 126)
    have hr7 := own_other hra hg7 (by rcases own_ne HN6.out HR6.out (by decide) with h | h <;> (intro h'; rw [← h'] at h; simp at h))
    have hu7 := own_other hua hg7 (by rcases own_ne HN6.out HU6.out (by decide) with h | h <;> (intro h'; rw [← h'] at h; simp at h))
    replace hown7 : w7.ownsRow (w.heap.size + 2) 126 2 v7 1 (owE.cells ([] ++ [(s, 0)])) := hown7
    have hM7 : SlM owE 126 (w.heap.size + 2) w7 v7 ([] ++ [(s, 0)]) := slm_own (by simp) hown7
    obtain ⟨A7, c7, rfl, _, _, _⟩ := own_rd hown7
    have s0 := hu7.cell_ 0 (v := .int .i64 g.count) rfl
    have s1 := hu7.cell_ 1 (v := .int .i64 0) rfl
    have s2 := hu7.cell_ 2 (v := .int .i64 (g.round + 1)) rfl
    have s3 := hu7.cell_ 3 (v := (.slice (some ⟨w5.heap.size, 0, none⟩) 0 0)) rfl
    have m1 := hu7.free 1
    have m3 := hu7.free 3
    have r0 := hr7.cell_ 0 (v := .int .i64 0) rfl
    have r1 := hr7.cell_ 1 (v := .int .i64 0) rfl
    have r2 := hr7.cell_ 2 (v := .int .i64 0) rfl
    have r3 := hr7.cell_ 3 (v := .slice none 0 0) rfl
    have f0 := hr7.free 0
    have f1 := hr7.free 1
    have f2 := hr7.free 2
    have f3 := hr7.free 3
    have hlr7 := hr7.lt
    have hlu7 := hu7.lt
    have hne3 : w3.heap.size ≠ w.heap.size + 1 := by have := HR3.out.lt; omega
    have hne4 : w.heap.size + 1 ≠ w3.heap.size := by have := HR3.out.lt; omega
    have HM7 := Hd hM7
    have HR7 := Hd hr7
    have HU7 := Hd hu7
    have HB7 := Hd hb7
    have HRUN := Hd hrun
    clear hown7 hg7 hra hua hr7 hu7 hb7 hob7 hM7 hrun
    have hz6 : (((((((w5.setCell ⟨w3.heap.size, 0, none⟩ (.int .i64 g.count)).setCell ⟨w3.heap.size, 1, none⟩ (.int .i64 0)).setCell ⟨w3.heap.size, 2, none⟩ (.int .i64 (g.round + 1))).setCell ⟨w3.heap.size, 3, none⟩ (.slice (some ⟨w5.heap.size, 0, none⟩) 0 0))).alloc (.cells #[] 126))).heap.size = w5.heap.size + 1 := by simp
    rw [hz6] at HRUN
    clear hz6
    clear HR6 HU6 HB6 HS6 HN6
    go_wp2_with (at_builtin; refine wpList_append_run _ rfl (.tmp 55) (.tmp 59) 44 rfl _ _ _ _ rfl rfl HRUN.out ?_)
    have o3 := (((((HR7.out.far (p := ⟨w3.heap.size, 3, none⟩) (u := .slice A7 1 c7) hne4).far (p := ⟨w3.heap.size, 1, none⟩) (u := .int .i64 1) hne4).set_ 0 (.int .i64 g.count)).set_ 1 (.int .i64 1)).set_ 2 (.int .i64 (g.round + 1))).set_ 3 (.slice A7 1 c7)
    have t0 := o3.cell_ 0 (v := .int .i64 g.count) rfl
    have t1 := o3.cell_ 1 (v := .int .i64 1) rfl
    have t2 := o3.cell_ 2 (v := .int .i64 (g.round + 1)) rfl
    have t3 := o3.cell_ 3 (v := .slice A7 1 c7) rfl
    have hM := (((((HM7.out.farTg HU7.out (i := 3) (u := .slice A7 1 c7) (by decide)).farTg (HU7.out.set_ 3 (.slice A7 1 c7)) (i := 1) (u := .int .i64 1) (by decide)).far (p := ⟨w.heap.size + 1, 0, none⟩) (u := .int .i64 g.count) (by show w.heap.size + 1 < w.heap.size + 2; omega)).far (p := ⟨w.heap.size + 1, 1, none⟩) (u := .int .i64 1) (by show w.heap.size + 1 < w.heap.size + 2; omega)).far (p := ⟨w.heap.size + 1, 2, none⟩) (u := .int .i64 (g.round + 1)) (by show w.heap.size + 1 < w.heap.size + 2; omega)).far (p := ⟨w.heap.size + 1, 3, none⟩) (u := .slice A7 1 c7) (by show w.heap.size + 1 < w.heap.size + 2; omega)
    refine bodyPost_ret (v := .tuple #[.agg #[.int .i64 g.count, .int .i64 1, .int .i64 (g.round + 1), .slice A7 1 c7], .int .i64 0, .bool true, .bool true]) (by simp [results, Tryz.results220, go_sem, t0, t1, t2, t3]) rfl ⟨_, rfl, _, by first | (rw [HV.out]; done) | (rw [HV.out]; rfl), by rw [HV.out]; exact hM.mono (by omega), ?_⟩
    have hlw3 : w.heap.size ≤ w3.heap.size := by have := HR3.out.lt; omega
    repeat (refine bS ?_ (by simp <;> omega))
    exact HB7.out
  ·have h4b : (g.next == g.count) = false := by rw [beq_eq_false_iff_ne]; exact h4
   have HV := Hd (takG_new hgs h3 h4)
   have h5b : ¬ 1000000 < g.round := by omega
   clear h4
   obtain ⟨v7, w7, hrun, hown7, hg7, hob7⟩ := run_append_o (w.heap.size + 2) w5 (.slice A1 g.os.length c1) g.os.length g.os (s, g.next) HN5.out rfl (by first | decide | omega) HS5.out
   have hb7 := bG (bA HB5.out (o := .cells #[.int .i64 s, .int .i64 g.next] 126)) hg7 (own_block (own_mono HN5.out (by omega)))
   have hra := HR5.out.alloc (o := .cells #[.int .i64 s, .int .i64 g.next] 126)
   have hua := HU5.out.alloc (o := .cells #[.int .i64 s, .int .i64 g.next] 126)
   have hr7 := own_other hra hg7 (by rcases own_ne HN5.out HR5.out (by decide) with h | h <;> (intro h'; rw [← h'] at h; simp at h))
   have hu7 := own_other hua hg7 (by rcases own_ne HN5.out HU5.out (by decide) with h | h <;> (intro h'; rw [← h'] at h; simp at h))
   replace hown7 : w7.ownsRow (w.heap.size + 2) 126 2 v7 (g.os.length + 1) (owE.cells (g.os ++ [(s, g.next)])) := hown7
   have hM7 : SlM owE 126 (w.heap.size + 2) w7 v7 (g.os ++ [(s, g.next)]) := slm_own (by simp) hown7
   obtain ⟨A7, c7, rfl, _, _, _⟩ := own_rd hown7
   have s0 := hu7.cell_ 0 (v := .int .i64 g.count) rfl
   have s1 := hu7.cell_ 1 (v := .int .i64 g.next) rfl
   have s2 := hu7.cell_ 2 (v := .int .i64 g.round) rfl
   have s3 := hu7.cell_ 3 (v := (.slice A1 g.os.length c1)) rfl
   have m1 := hu7.free 1
   have m3 := hu7.free 3
   have r0 := hr7.cell_ 0 (v := .int .i64 0) rfl
   have r1 := hr7.cell_ 1 (v := .int .i64 0) rfl
   have r2 := hr7.cell_ 2 (v := .int .i64 0) rfl
   have r3 := hr7.cell_ 3 (v := .slice none 0 0) rfl
   have f0 := hr7.free 0
   have f1 := hr7.free 1
   have f2 := hr7.free 2
   have f3 := hr7.free 3
   have hlr7 := hr7.lt
   have hlu7 := hu7.lt
   have hne3 : w3.heap.size ≠ w.heap.size + 1 := by have := HR3.out.lt; omega
   have hne4 : w.heap.size + 1 ≠ w3.heap.size := by have := HR3.out.lt; omega
   have HM7 := Hd hM7
   have HR7 := Hd hr7
   have HU7 := Hd hu7
   have HB7 := Hd hb7
   have HRUN := Hd hrun
   clear hown7 hg7 hra hua hr7 hu7 hb7 hob7 hM7 hrun
   go_wp2_with (at_builtin; refine wpList_append_run _ rfl (.tmp 55) (.tmp 59) 44 rfl _ _ _ _ rfl rfl HRUN.out ?_)
   have o3 := (((((HR7.out.far (p := ⟨w3.heap.size, 3, none⟩) (u := .slice A7 (g.os.length + 1) c7) hne4).far (p := ⟨w3.heap.size, 1, none⟩) (u := .int .i64 (g.next + 1)) hne4).set_ 0 (.int .i64 g.count)).set_ 1 (.int .i64 (g.next + 1))).set_ 2 (.int .i64 g.round)).set_ 3 (.slice A7 (g.os.length + 1) c7)
   have t0 := o3.cell_ 0 (v := .int .i64 g.count) rfl
   have t1 := o3.cell_ 1 (v := .int .i64 (g.next + 1)) rfl
   have t2 := o3.cell_ 2 (v := .int .i64 g.round) rfl
   have t3 := o3.cell_ 3 (v := .slice A7 (g.os.length + 1) c7) rfl
   have hM := (((((HM7.out.farTg HU7.out (i := 3) (u := .slice A7 (g.os.length + 1) c7) (by decide)).farTg (HU7.out.set_ 3 (.slice A7 (g.os.length + 1) c7)) (i := 1) (u := .int .i64 (g.next + 1)) (by decide)).far (p := ⟨w.heap.size + 1, 0, none⟩) (u := .int .i64 g.count) (by show w.heap.size + 1 < w.heap.size + 2; omega)).far (p := ⟨w.heap.size + 1, 1, none⟩) (u := .int .i64 (g.next + 1)) (by show w.heap.size + 1 < w.heap.size + 2; omega)).far (p := ⟨w.heap.size + 1, 2, none⟩) (u := .int .i64 g.round) (by show w.heap.size + 1 < w.heap.size + 2; omega)).far (p := ⟨w.heap.size + 1, 3, none⟩) (u := .slice A7 (g.os.length + 1) c7) (by show w.heap.size + 1 < w.heap.size + 2; omega)
   refine bodyPost_ret (v := .tuple #[.agg #[.int .i64 g.count, .int .i64 (g.next + 1), .int .i64 g.round, .slice A7 (g.os.length + 1) c7], .int .i64 g.next, .bool false, .bool true]) (by simp [results, Tryz.results220, go_sem, t0, t1, t2, t3]) rfl ⟨_, rfl, _, by first | (rw [HV.out]; done) | (rw [HV.out]; rfl), by rw [HV.out]; exact hM.mono (by omega), ?_⟩
   have hlw3 : w.heap.size ≤ w3.heap.size := by have := HR3.out.lt; omega
   repeat (refine bS ?_ (by simp <;> omega))
   exact HB7.out
end Go.Proofs.YtibpnlojlfcpmaaGreatDoor
