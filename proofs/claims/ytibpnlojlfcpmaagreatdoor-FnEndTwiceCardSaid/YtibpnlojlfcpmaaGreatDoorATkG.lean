/- A part of the proofs of this seat: EnI, TkG. -/
import Derived.ArgAppend
import Derived.Deep.CutRange
import Derived.Test.YtibpnlojlfcpmaaGreatDoorAVicS
import Derived.Test.YtibpnlojlfcpmaaGreatDoorATagS
set_option linter.unusedVariables false
set_option linter.unusedSimpArgs false
set_option maxRecDepth 1000000
namespace Go.Proofs.YtibpnlojlfcpmaaGreatDoor
open Go.RowKit
theorem run_append_cl (W : World) (A : Option Addr) (l : List (Int × Int)) (x : Int × Int) (h : Rs owE W.heap.size W A l) (hl : l.length ≤ 1048576) :
  ∃ v' w', (Builtin.append_ #[44, 44] 44 #[.slice A l.length l.length, .slice (some ⟨W.heap.size, 0, none⟩) 1 1]).run Tryz.prog (W.alloc (.cells #[.int .i64 x.1, .int .i64 x.2] 126)) = .ok v' w' ∧
   w'.ownsRow W.heap.size 126 2 v' (l.length + 1) (owE.cells (l ++ [x])) ∧ (W.alloc (.cells #[.int .i64 x.1, .int .i64 x.2] 126)).grownBy w' none := by
 obtain ⟨i0, hi0, hz0, hz1, hz2⟩ := info_parts ow_info
 have hx := Own.new_ W 126 #[.int .i64 x.1, .int .i64 x.2]
 have hnews : ∀ j u, ([.int .i64 x.1, .int .i64 x.2] : List Value)[j]? = some u → (W.alloc (.cells #[.int .i64 x.1, .int .i64 x.2] 126)).cell? ((⟨W.heap.size, 0, none⟩ : Addr).add j) = some u := fun j u hu => by
  rw [add_lit_, Nat.zero_add]
  exact hx.cell_ j (by simpa using hu)
 have h' := h.alloc (.cells #[.int .i64 x.1, .int .i64 x.2] 126)
 cases A with
 | none =>
  have h0 : l = [] := by
   rcases Nat.eq_zero_or_pos l.length with h9 | h9
   ·exact List.length_eq_zero_iff.1 h9
   ·obtain ⟨b, o, e, _⟩ := h.at_ h9
    cases e
  subst h0
  obtain ⟨v', w', h1, h2, h3, _⟩ := run_append_o W.heap.size W (.slice none 0 0) 0 [] x (World.ownsRow_nil _ _ _ _) rfl (by omega) (Nat.le_refl _)
  exact ⟨v', w', h1, by simpa using h2, h3⟩
 | some ad =>
  have hold : ∀ j u, (owE.cells l)[j]? = some u → (W.alloc (.cells #[.int .i64 x.1, .int .i64 x.2] 126)).cell? (ad.add j) = some u := fun j u hu => by
   rcases Nat.eq_zero_or_pos l.length with h9 | h9
   ·rw [List.length_eq_zero_iff.1 h9] at hu
    simp [Enc.cells] at hu
   ·obtain ⟨b, o, e, hb, hc⟩ := h'.at_ h9
    injection e with e
    subst e
    rw [add_lit_]
    exact hc j u hu
  obtain ⟨v', w', h1, h2, h3⟩ := run_append_arg_grows (P := Tryz.prog) (W.alloc (.cells #[.int .i64 x.1, .int .i64 x.2] 126)) 44 44 126 i0 _ 2 16 Tryz.underlying44 hi0 hz0 hz1 hz2 rfl (by omega) ad l.length l.length (owE.cells l) (owE.cells_length l) hold ⟨W.heap.size, 0, none⟩ 1 1 _ rfl hnews (by omega) (by unfold maxLen; omega) (by omega)
  refine ⟨v', w', h1, own_mono ?_ (show W.heap.size ≤ (W.alloc (.cells #[.int .i64 x.1, .int .i64 x.2] 126)).heap.size by simp), h3⟩
  rw [owE.cells_append, owE.cells_single]
  exact h2
set_option maxHeartbeats 2000000 in
theorem TakeTag_any (vo : Value) (g : Tg) (s : Int) (w : World) (hT : SlR owE w vo g.os) :
  Calls Tryz.prog 109 #[.agg #[.int .i64 g.count, .int .i64 g.next, .int .i64 g.round, vo], .int .i64 s] w (Post2 fun v w' => ∃ v4, v = .tuple #[.agg #[.int .i64 (takG g s).1.count, .int .i64 (takG g s).1.next, .int .i64 (takG g s).1.round, v4], .int .i64 (takG g s).2.1, .bool (takG g s).2.2.1, .bool (takG g s).2.2.2] ∧ SlM owE 126 w.heap.size w' v4 (takG g s).1.os ∧ Below w.heap.size w w') := by
 have HV0 := Hd hT
 obtain ⟨A, cc, rfl, hbc, hbm, hL⟩ := hT
 have hbx := (Own.new_ w 46 #[.int .i64 g.count, .int .i64 g.next, .int .i64 g.round, .slice A g.os.length cc]).alloc (o := .cells #[.int .i64 0, .int .i64 0, .int .i64 0, .slice none 0 0] 46)
 have hbo := ownAt (W := w.alloc (.cells #[.int .i64 g.count, .int .i64 g.next, .int .i64 g.round, .slice A g.os.length cc] 46)) (g := w.heap.size + 1) (t := 46) (cs := #[.int .i64 0, .int .i64 0, .int .i64 0, .slice none 0 0]) (by simp)
 have hb0 : Below w.heap.size w ((w.alloc (.cells #[.int .i64 g.count, .int .i64 g.next, .int .i64 g.round, .slice A g.os.length cc] 46)).alloc (.cells #[.int .i64 0, .int .i64 0, .int .i64 0, .slice none 0 0] 46)) := bA (bA bR)
 have hs0 : ((w.alloc (.cells #[.int .i64 g.count, .int .i64 g.next, .int .i64 g.round, .slice A g.os.length cc] 46)).alloc (.cells #[.int .i64 0, .int .i64 0, .int .i64 0, .slice none 0 0] 46)).heap.size = w.heap.size + 2 := by simp
 generalize hW : (w.alloc (.cells #[.int .i64 g.count, .int .i64 g.next, .int .i64 g.round, .slice A g.os.length cc] 46)).alloc (.cells #[.int .i64 0, .int .i64 0, .int .i64 0, .slice none 0 0] 46) = W0 at hbx hbo hb0 hs0
 have HX0 := Hd hbx
 have HR0 := Hd hbo
 have HB0 := Hd hb0
 have HLR := Hd hL
 clear hbx hbo hb0 hL
 have q0 := HX0.out.cell_ 0 (v := .int .i64 g.count) rfl
 have q1 := HX0.out.cell_ 1 (v := .int .i64 g.next) rfl
 have q2 := HX0.out.cell_ 2 (v := .int .i64 g.round) rfl
 have q3 := HX0.out.cell_ 3 (v := .slice A g.os.length cc) rfl
 go_enter Tryz.func109, Tryz.ntmps109
 go_wp2_with fail
 refine (TagsValid_any _ g _ (HV0.out.now HB0.out)).mono ?_
 rintro e w1 ⟨rfl, hb1⟩
 have HX1 := Hd (HX0.out.below hb1)
 have HR1 := Hd (HR0.out.below hb1)
 have HB1 := Hd (bT HB0.out hb1)
 have hs1 : w.heap.size + 2 ≤ w1.heap.size := by have := hb1.size; omega
 clear q0 q1 q2 q3 hb1
 cases h1 : tgv g with
 | false =>
  have HV := Hd (takG_no (g := g) (s := s) (by rw [h1]; rfl))
  have r0 := HR1.out.cell_ 0 (v := .int .i64 0) rfl
  have r1 := HR1.out.cell_ 1 (v := .int .i64 0) rfl
  have r2 := HR1.out.cell_ 2 (v := .int .i64 0) rfl
  have r3 := HR1.out.cell_ 3 (v := .slice none 0 0) rfl
  have f0 := HR1.out.free 0
  have f1 := HR1.out.free 1
  have f2 := HR1.out.free 2
  have f3 := HR1.out.free 3
  have hl1 := HR1.out.lt
  go_wp2
  have o3 := (((HR1.out.set_ 0 (.int .i64 0)).set_ 1 (.int .i64 0)).set_ 2 (.int .i64 0)).set_ 3 (.slice none 0 0)
  have t0 := o3.cell_ 0 (v := .int .i64 0) rfl
  have t1 := o3.cell_ 1 (v := .int .i64 0) rfl
  have t2 := o3.cell_ 2 (v := .int .i64 0) rfl
  have t3 := o3.cell_ 3 (v := .slice none 0 0) rfl
  refine bodyPost_ret (v := .tuple #[.agg #[.int .i64 0, .int .i64 0, .int .i64 0, .slice none 0 0], .int .i64 0, .bool false, .bool false]) (by simp [results, Tryz.results109, go_sem, t0, t1, t2, t3]) rfl ⟨_, rfl, _, by rw [HV.out]; rfl, by rw [HV.out]; exact SlM.nil_ _, ?_⟩
  repeat (refine bS ?_ (by simp <;> omega))
  exact HB1.out
 | true =>
 cases h2 : inR s 16 with
 | false =>
  have HV := Hd (takG_no (g := g) (s := s) (by rw [h2, Bool.and_false]))
  go_wp2_with fail
  refine (within_any _ _ _).mono ?_
  rintro e w' ⟨rfl, rfl⟩
  rw [h2]
  have r0 := HR1.out.cell_ 0 (v := .int .i64 0) rfl
  have r1 := HR1.out.cell_ 1 (v := .int .i64 0) rfl
  have r2 := HR1.out.cell_ 2 (v := .int .i64 0) rfl
  have r3 := HR1.out.cell_ 3 (v := .slice none 0 0) rfl
  have f0 := HR1.out.free 0
  have f1 := HR1.out.free 1
  have f2 := HR1.out.free 2
  have f3 := HR1.out.free 3
  have hl1 := HR1.out.lt
  go_wp2
  have o3 := (((HR1.out.set_ 0 (.int .i64 0)).set_ 1 (.int .i64 0)).set_ 2 (.int .i64 0)).set_ 3 (.slice none 0 0)
  have t0 := o3.cell_ 0 (v := .int .i64 0) rfl
  have t1 := o3.cell_ 1 (v := .int .i64 0) rfl
  have t2 := o3.cell_ 2 (v := .int .i64 0) rfl
  have t3 := o3.cell_ 3 (v := .slice none 0 0) rfl
  refine bodyPost_ret (v := .tuple #[.agg #[.int .i64 0, .int .i64 0, .int .i64 0, .slice none 0 0], .int .i64 0, .bool false, .bool false]) (by simp [results, Tryz.results109, go_sem, t0, t1, t2, t3]) rfl ⟨_, rfl, _, by rw [HV.out]; rfl, by rw [HV.out]; exact SlM.nil_ _, ?_⟩
  repeat (refine bS ?_ (by simp <;> omega))
  exact HB1.out
 | true =>
 have hgs : (tgv g && inR s 16) = true := by rw [h1, h2]; rfl
 obtain ⟨⟨b1, b2, b3, b4, b5, b6⟩, htok⟩ := tgv_parts h1
 have hlen := tok_len htok b3
 go_wp2_with fail
 refine (within_any _ _ _).mono ?_
 rintro e w' ⟨rfl, rfl⟩
 rw [h2]
 have q0 := HX1.out.cell_ 0 (v := .int .i64 g.count) rfl
 have q1 := HX1.out.cell_ 1 (v := .int .i64 g.next) rfl
 have q2 := HX1.out.cell_ 2 (v := .int .i64 g.round) rfl
 have q3 := HX1.out.cell_ 3 (v := .slice A g.os.length cc) rfl
 have ho2 := Own.new_ w1 46 #[.int .i64 g.count, .int .i64 g.next, .int .i64 g.round, .slice A g.os.length cc]
 have hb2 : Below w1.heap.size w1 (w1.alloc (.cells #[.int .i64 g.count, .int .i64 g.next, .int .i64 g.round, .slice A g.os.length cc] 46)) := bA bR
 have hs2 : (w1.alloc (.cells #[.int .i64 g.count, .int .i64 g.next, .int .i64 g.round, .slice A g.os.length cc] 46)).heap.size = w1.heap.size + 1 := by simp
 generalize hW2 : w1.alloc (.cells #[.int .i64 g.count, .int .i64 g.next, .int .i64 g.round, .slice A g.os.length cc] 46) = w2 at ho2 hb2 hs2
 have HU2 := Hd ho2
 have HX2 := Hd (HX1.out.below hb2)
 have HR2 := Hd (HR1.out.below hb2)
 have HB2 := Hd (bT HB1.out hb2)
 go_upto_region 4 with fail
 try rw [hW2]
 clear q0 q1 q2 q3 hW2 ho2 hb2
 have q3 := HX2.out.cell_ 3 (v := .slice A g.os.length cc) rfl
 go_wp2_with fail
 refine (cloneOwn_any _ g.os w2 (HV0.out.now HB2.out) (by omega)).mono ?_
 rintro e w3 ⟨v3, rfl, hM3, hb3⟩
 obtain ⟨A3, c3, rfl, hc3, _⟩ := id hM3
 have HM3 := Hd hM3.r
 have HU3 := Hd (HU2.out.below hb3)
 have HX3 := Hd (HX2.out.below hb3)
 have HR3 := Hd (HR2.out.below hb3)
 have HB3 := Hd (bT HB2.out hb3)
 have HM3M := Hd hM3
 have hs3 : w1.heap.size + 1 ≤ w3.heap.size := by have := hb3.size; omega
 clear q3 hM3 hb3
 go_wp2_with fail
 refine (clipOwn_p A3 _ c3 _ hc3).mono ?_
 rintro e w' ⟨_, rfl, rfl, rfl⟩
 have p0 := HU3.out.cell_ 0 (v := .int .i64 g.count) rfl
 have p1 := HU3.out.cell_ 1 (v := .int .i64 g.next) rfl
 have p2 := HU3.out.cell_ 2 (v := .int .i64 g.round) rfl
 have p3 := HU3.out.cell_ 3 (v := .slice A g.os.length cc) rfl
 have f0 := HU3.out.free 0
 have f1 := HU3.out.free 1
 have f2 := HU3.out.free 2
 have f3 := HU3.out.free 3
 have hlu3 := HU3.out.lt
 have hne1 : w.heap.size ≠ w1.heap.size := by omega
 have hne2 : w.heap.size + 1 ≠ w1.heap.size := by omega
 have hne3 : w1.heap.size ≠ w.heap.size := by omega
 have hne4 : w1.heap.size ≠ w.heap.size + 1 := by omega
 have hu4 := HU3.out.set_ 3 (.slice A3 g.os.length g.os.length)
 have hx4 := HX3.out.far (p := ⟨w1.heap.size, 3, none⟩) (u := .slice A3 g.os.length g.os.length) hne1
 have hr4 := HR3.out.far (p := ⟨w1.heap.size, 3, none⟩) (u := .slice A3 g.os.length g.os.length) hne2
 have hb4 := bS HB3.out (p := ⟨w1.heap.size, 3, none⟩) (u := .slice A3 g.os.length g.os.length) (show w.heap.size ≤ w1.heap.size by omega)
 have hm4 : SlM owE 126 w2.heap.size (w3.setCell ⟨w1.heap.size, 3, none⟩ (.slice A3 g.os.length g.os.length)) (.slice A3 g.os.length g.os.length) g.os := by
  obtain ⟨A', c', e', g1, g2, g3⟩ := HM3M.out.far (p := ⟨w1.heap.size, 3, none⟩) (u := .slice A3 g.os.length g.os.length) (by show w1.heap.size < w2.heap.size; omega)
  injection e' with e1 _ e3
  subst e1
  exact ⟨A3, g.os.length, rfl, Nat.le_refl _, by omega, g3⟩
 generalize hW4 : w3.setCell ⟨w1.heap.size, 3, none⟩ (.slice A3 g.os.length g.os.length) = w4 at hu4 hx4 hr4 hb4 hm4
 have HU4 : Hid (Own w4 w1.heap.size 46 #[.int .i64 g.count, .int .i64 g.next, .int .i64 g.round, .slice A3 g.os.length g.os.length]) := Hd (by simpa using hu4)
 have HX4 := Hd hx4
 have HR4 := Hd hr4
 have HB4 := Hd hb4
 have HM4 := Hd hm4
 clear hu4 hx4 hr4 hb4 hm4 HM3 HM3M HU3 HX3 HR3
 go_upto_region 5 with fail
 try rw [hW4]
 clear p0 p1 p2 p3 f0 f1 f2 f3 hW4
 have q0 := HX4.out.cell_ 0 (v := .int .i64 g.count) rfl
 have q1 := HX4.out.cell_ 1 (v := .int .i64 g.next) rfl
 have q2 := HX4.out.cell_ 2 (v := .int .i64 g.round) rfl
 have q3 := HX4.out.cell_ 3 (v := .slice A g.os.length cc) rfl
 go_wp2_with fail
 refine (own_any _ g s _ (HV0.out.now HB4.out)).mono ?_
 rintro e w5 ⟨rfl, hb5⟩
 have HU5 := Hd (HU4.out.below hb5)
 have HX5 := Hd (HX4.out.below hb5)
 have HR5 := Hd (HR4.out.below hb5)
 have HB5 := Hd (bT HB4.out hb5)
 have HN5 := Hd (HM4.out.now hb5)
 have hs5 : w1.heap.size + 1 ≤ w5.heap.size := by have := HU5.out.lt; omega
 clear q0 q1 q2 q3 hb5 HU4 HX4 HR4 HM4
 by_cases h3 : 0 ≤ ownI g.os s
 case pos =>
  obtain ⟨k, o, hk, eo, _⟩ := ownI_lt h3
  have HV := Hd (takG_old hgs hk eo)
  rw [hk]
  obtain ⟨b, ob, rfl, hbb, d0, d1⟩ := (HLR.out.below HB5.out).ow eo
  have hbb5 : b < w5.heap.size := Nat.lt_of_lt_of_le hbb HB5.out.size
  have hkl := (List.getElem?_eq_some_iff.1 eo).1
  have q3 := HX5.out.cell_ 3 (v := .slice (some ⟨b, ob, none⟩) g.os.length cc) rfl
  have p0 := HU5.out.cell_ 0 (v := .int .i64 g.count) rfl
  have p1 := HU5.out.cell_ 1 (v := .int .i64 g.next) rfl
  have p2 := HU5.out.cell_ 2 (v := .int .i64 g.round) rfl
  have p3 := HU5.out.cell_ 3 (v := .slice A3 g.os.length g.os.length) rfl
  have r0 := HR5.out.cell_ 0 (v := .int .i64 0) rfl
  have r1 := HR5.out.cell_ 1 (v := .int .i64 0) rfl
  have r2 := HR5.out.cell_ 2 (v := .int .i64 0) rfl
  have r3 := HR5.out.cell_ 3 (v := .slice none 0 0) rfl
  have f0 := HR5.out.free 0
  have f1 := HR5.out.free 1
  have f2 := HR5.out.free 2
  have f3 := HR5.out.free 3
  have hn1 : w.heap.size + 1 ≠ b := by omega
  have hn2 : b ≠ w.heap.size + 1 := by omega
  have hlx := HX5.out.lt
  have hlr := HR5.out.lt
  clear hk eo d0 h3
  go_wp2
  go_region_held_law (fun w' => w'.cell? ⟨w1.heap.size, 0, none⟩ = some (.int .i64 g.count) ∧ w'.cell? ⟨w1.heap.size, 1, none⟩ = some (.int .i64 g.next) ∧ w'.cell? ⟨w1.heap.size, 2, none⟩ = some (.int .i64 g.round) ∧ w'.cell? ⟨w1.heap.size, 3, none⟩ = some (.slice A3 g.os.length g.os.length) ∧ w'.cell? ⟨w.heap.size, 3, none⟩ = some (.slice (some ⟨b, ob, none⟩) g.os.length cc) ∧ w'.cell? ⟨b, ob + k * 2 + 1, none⟩ = some (.int .i64 o.2)) (go_keep) (fail)
  all_goals
   clear p0 p1 p2 p3 d1 q3
   go_wp2
   have o3 := (((HR5.out.set_ 0 (.int .i64 g.count)).set_ 1 (.int .i64 g.next)).set_ 2 (.int .i64 g.round)).set_ 3 (.slice A3 g.os.length g.os.length)
   have t0 := o3.cell_ 0 (v := .int .i64 g.count) rfl
   have t1 := o3.cell_ 1 (v := .int .i64 g.next) rfl
   have t2 := o3.cell_ 2 (v := .int .i64 g.round) rfl
   have t3 := o3.cell_ 3 (v := .slice A3 g.os.length g.os.length) rfl
   refine bodyPost_ret (v := .tuple #[.agg #[.int .i64 g.count, .int .i64 g.next, .int .i64 g.round, .slice A3 g.os.length g.os.length], .int .i64 o.2, .bool false, .bool true]) (by simp [results, Tryz.results109, go_sem, t0, t1, t2, t3]) rfl ⟨_, rfl, _, by rw [HV.out], ?_, ?_⟩
   ·rw [HV.out]
    have hfr : w.heap.size + 1 < w2.heap.size := by omega
    have hM8 := (((HN5.out.far (p := ⟨w.heap.size + 1, 0, none⟩) (u := .int .i64 g.count) hfr).far (p := ⟨w.heap.size + 1, 1, none⟩) (u := .int .i64 g.next) hfr).far (p := ⟨w.heap.size + 1, 2, none⟩) (u := .int .i64 g.round) hfr).far (p := ⟨w.heap.size + 1, 3, none⟩) (u := .slice A3 g.os.length g.os.length) hfr
    exact (hM8.now (bD bR)).mono (show w.heap.size ≤ w2.heap.size by omega)
   ·refine bD ?_
    repeat (refine bS ?_ (by simp <;> omega))
    exact HB5.out
 case neg =>
  have h3b : ¬ 0 ≤ ownI g.os s := h3
  have q0 := HX5.out.cell_ 0 (v := .int .i64 g.count) rfl
  have q1 := HX5.out.cell_ 1 (v := .int .i64 g.next) rfl
  have q2 := HX5.out.cell_ 2 (v := .int .i64 g.round) rfl
  have q3 := HX5.out.cell_ 3 (v := .slice A g.os.length cc) rfl
  have hlx := HX5.out.lt
  have HM5 : Hid (Rs owE w5.heap.size w5 A3 g.os) := by
   obtain ⟨A', c', e', _, _, g3⟩ := HN5.out
   injection e' with e1 _ _
   subst e1
   exact Hd g3.is
  have hgl : g.os.length ≤ 1048576 := by omega
  by_cases h4 : g.next = g.count
  ·have HVE : Hid (g.round = 1000000 → takG g s = (tgz, 0, false, false)) := fun h5 => takG_end hgs h3 h4 h5
   have HVF : Hid (¬ g.round = 1000000 → takG g s = (⟨g.count, 1, g.round + 1, [(s, 0)]⟩, 0, true, true)) := fun h5 => takG_fresh hgs h3 h4 h5
   clear hgs h1 htok HV0 HLR
   generalize hgn : g.next = gn at *
   subst h4
   clear hgn
   by_cases h5 : g.round = 1000000
   ·have HV := Hd (HVE.out h5)
    have h5b : (g.round == 1000000) = true := by rw [beq_iff_eq]; exact h5
    clear HVE HVF
    rw [h5] at q2
    clear h5 h5b
    have r0 := HR5.out.cell_ 0 (v := .int .i64 0) rfl
    have r1 := HR5.out.cell_ 1 (v := .int .i64 0) rfl
    have r2 := HR5.out.cell_ 2 (v := .int .i64 0) rfl
    have r3 := HR5.out.cell_ 3 (v := .slice none 0 0) rfl
    have f0 := HR5.out.free 0
    have f1 := HR5.out.free 1
    have f2 := HR5.out.free 2
    have f3 := HR5.out.free 3
    have hl1 := HR5.out.lt
    go_wp2
    have o3 := (((HR5.out.set_ 0 (.int .i64 0)).set_ 1 (.int .i64 0)).set_ 2 (.int .i64 0)).set_ 3 (.slice none 0 0)
    have t0 := o3.cell_ 0 (v := .int .i64 0) rfl
    have t1 := o3.cell_ 1 (v := .int .i64 0) rfl
    have t2 := o3.cell_ 2 (v := .int .i64 0) rfl
    have t3 := o3.cell_ 3 (v := .slice none 0 0) rfl
    refine bodyPost_ret (v := .tuple #[.agg #[.int .i64 0, .int .i64 0, .int .i64 0, .slice none 0 0], .int .i64 0, .bool false, .bool false]) (by simp [results, Tryz.results109, go_sem, t0, t1, t2, t3]) rfl ⟨_, rfl, _, by rw [HV.out]; rfl, by rw [HV.out]; exact SlM.nil_ _, ?_⟩
    repeat (refine bS ?_ (by simp <;> omega))
    exact HB5.out
   ·have HV := Hd (HVF.out h5)
    have h5b : (g.round == 1000000) = false := by rw [beq_eq_false_iff_ne]; exact h5
    clear HVE HVF h5
    have f0 := HU5.out.free 0
    have f1 := HU5.out.free 1
    have f2 := HU5.out.free 2
    have f3 := HU5.out.free 3
    have hlu5 := HU5.out.lt
    have hu6 := (((HU5.out.set_ 0 (.int .i64 g.count)).set_ 1 (.int .i64 0)).set_ 2 (.int .i64 (g.round + 1))).set_ 3 (.slice none 0 0)
    have hr6 := (((HR5.out.far (p := ⟨w1.heap.size, 0, none⟩) (u := .int .i64 g.count) hne2).far (p := ⟨w1.heap.size, 1, none⟩) (u := .int .i64 0) hne2).far (p := ⟨w1.heap.size, 2, none⟩) (u := .int .i64 (g.round + 1)) hne2).far (p := ⟨w1.heap.size, 3, none⟩) (u := .slice none 0 0) hne2
    have hww : w.heap.size ≤ w1.heap.size := by omega
    have hb6 := bS (bS (bS (bS HB5.out (p := ⟨w1.heap.size, 0, none⟩) (u := .int .i64 g.count) hww) (p := ⟨w1.heap.size, 1, none⟩) (u := .int .i64 0) hww) (p := ⟨w1.heap.size, 2, none⟩) (u := .int .i64 (g.round + 1)) hww) (p := ⟨w1.heap.size, 3, none⟩) (u := .slice none 0 0) hww
    generalize hW6 : (((w5.setCell ⟨w1.heap.size, 0, none⟩ (.int .i64 g.count)).setCell ⟨w1.heap.size, 1, none⟩ (.int .i64 0)).setCell ⟨w1.heap.size, 2, none⟩ (.int .i64 (g.round + 1))).setCell ⟨w1.heap.size, 3, none⟩ (.slice none 0 0) = w6 at hu6 hr6 hb6
    have HU6 : Hid (Own w6 w1.heap.size 46 #[.int .i64 g.count, .int .i64 0, .int .i64 (g.round + 1), .slice none 0 0]) := Hd (by simpa using hu6)
    have HR6 := Hd hr6
    have HB6 := Hd hb6
    have HM6 : Hid (Rs owE w6.heap.size w6 none []) := Hd (rs_nil none)
    have hs6 : w1.heap.size + 1 ≤ w6.heap.size := by have := HU6.out.lt; omega
    have hwr : IntKind.i64.wrap (g.round + 1) = g.round + 1 := IntWalk.i64_in _ (by omega)
    clear hu6 hr6 hb6 HM5 HN5 HR5
    have p0 := HU5.out.cell_ 0 (v := .int .i64 g.count) rfl
    have p1 := HU5.out.cell_ 1 (v := .int .i64 g.count) rfl
    have p2 := HU5.out.cell_ 2 (v := .int .i64 g.round) rfl
    have p3 := HU5.out.cell_ 3 (v := .slice A3 g.os.length g.os.length) rfl
    go_upto_region 13 with fail
    try rw [hW6]
    clear p0 p1 p2 p3 f0 f1 f2 f3 q0 q1 q2 q3 hW6 HU5 h3 h3b h5b b1 b2 b3 b4 b5 b6 hlen
    obtain ⟨v7, w7, hrun, ho7, hg7⟩ := run_append_cl w6 none ([] : List (Int × Int)) (s, 0) HM6.out (by first | omega | simp)
    have hb7 := bG (bA HB6.out (o := .cells #[.int .i64 s, .int .i64 0] 126)) hg7 (fun k hk => by cases hk)
    have hu7 := own_other (HU6.out.alloc (o := .cells #[.int .i64 s, .int .i64 0] 126)) hg7 (fun h => by cases h)
    have hr7 := own_other (HR6.out.alloc (o := .cells #[.int .i64 s, .int .i64 0] 126)) hg7 (fun h => by cases h)
    have HM7 := Hd (slm_own (show 0 + 1 = (([] : List (Int × Int)) ++ [(s, 0)]).length by simp) ho7)
    obtain ⟨A7, c7, rfl, hc7, _⟩ := own_rd ho7
    have HB7 := Hd hb7
    have HU7 := Hd hu7
    have HR7 := Hd hr7
    have HRUN := Hd hrun
    have hlu := HU6.out.lt
    have hsz7 : (w6).heap.size ≤ w7.heap.size := by have := hg7.size; simp at this; omega
    clear ho7 hg7 hb7 hu7 hr7 hrun
    have p0 := HU6.out.cell_ 0 (v := .int .i64 g.count) rfl
    have p1 := HU6.out.cell_ 1 (v := .int .i64 0) rfl
    have p2 := HU6.out.cell_ 2 (v := .int .i64 (g.round + 1)) rfl
    have p3 := HU6.out.cell_ 3 (v := .slice none 0 0) rfl
    go_upto_region 14 with fail
    clear p1
    go_wp2_with (at_builtin; refine wpList_append_run _ rfl (.tmp 58) (.tmp 62) 44 rfl _ _ _ _ rfl rfl HRUN.out ?_)
    clear p0 p2 p3 HRUN
    have p0 := HU7.out.cell_ 0 (v := .int .i64 g.count) rfl
    have p1 := HU7.out.cell_ 1 (v := .int .i64 0) rfl
    have p2 := HU7.out.cell_ 2 (v := .int .i64 (g.round + 1)) rfl
    have p3 := HU7.out.cell_ 3 (v := .slice none 0 0) rfl
    have f0 := HU7.out.free 0
    have f1 := HU7.out.free 1
    have f2 := HU7.out.free 2
    have f3 := HU7.out.free 3
    go_wp2_with fail
    refine (clipOwn_p A7 _ c7 _ hc7).mono ?_
    rintro e w8 ⟨_, rfl, rfl, rfl⟩
    have r0 := HR7.out.cell_ 0 (v := .int .i64 0) rfl
    have r1 := HR7.out.cell_ 1 (v := .int .i64 0) rfl
    have r2 := HR7.out.cell_ 2 (v := .int .i64 0) rfl
    have r3 := HR7.out.cell_ 3 (v := .slice none 0 0) rfl
    have k0 := HR7.out.free 0
    have k1 := HR7.out.free 1
    have k2 := HR7.out.free 2
    have k3 := HR7.out.free 3
    have hlr7 := HR7.out.lt
    have hlu7 := HU7.out.lt
    go_wp2
    have o2 := (((((HR7.out.far (p := ⟨w1.heap.size, 3, none⟩) (u := .slice A7 1 1) hne2).far (p := ⟨w1.heap.size, 1, none⟩) (u := .int .i64 1) hne2).set_ 0 (.int .i64 g.count)).set_ 1 (.int .i64 1)).set_ 2 (.int .i64 (g.round + 1))).set_ 3 (.slice A7 1 1)
    have t0 := o2.cell_ 0 (v := .int .i64 g.count) rfl
    have t1 := o2.cell_ 1 (v := .int .i64 1) rfl
    have t2 := o2.cell_ 2 (v := .int .i64 (g.round + 1)) rfl
    have t3 := o2.cell_ 3 (v := .slice A7 1 1) rfl
    have hM7 : SlM owE 126 (w6).heap.size w7 (.slice A7 1 1) (([] : List (Int × Int)) ++ [(s, 0)]) := by
     obtain ⟨A', c', e', g1, g2, g3⟩ := HM7.out
     injection e' with e1 _ e3
     subst e1
     exact ⟨A7, 1, by simp, by simp, by simp at g1; omega, g3⟩
    have hfr : w.heap.size + 1 < (w6).heap.size := by omega
    have hM8 := (((((hM7.far (p := ⟨w1.heap.size, 3, none⟩) (u := .slice A7 1 1) hlu).far (p := ⟨w1.heap.size, 1, none⟩) (u := .int .i64 1) hlu).far (p := ⟨w.heap.size + 1, 0, none⟩) (u := .int .i64 g.count) hfr).far (p := ⟨w.heap.size + 1, 1, none⟩) (u := .int .i64 1) hfr).far (p := ⟨w.heap.size + 1, 2, none⟩) (u := .int .i64 (g.round + 1)) hfr).far (p := ⟨w.heap.size + 1, 3, none⟩) (u := .slice A7 1 1) hfr
    refine bodyPost_ret (v := .tuple #[.agg #[.int .i64 g.count, .int .i64 1, .int .i64 (g.round + 1), .slice A7 1 1], .int .i64 0, .bool true, .bool true]) (by simp [results, Tryz.results109, go_sem, t0, t1, t2, t3]) rfl ⟨_, rfl, _, by rw [HV.out], ?_, ?_⟩
    ·rw [HV.out]
     exact hM8.mono (show w.heap.size ≤ (w6).heap.size by omega)
    ·repeat (refine bS ?_ (by simp <;> omega))
     exact HB7.out
  ·have h4b : (g.next == g.count) = false := by rw [beq_eq_false_iff_ne]; exact h4
   have HV := Hd (takG_new hgs h3 h4)
   have hwn : IntKind.i64.wrap (g.next + 1) = g.next + 1 := IntWalk.i64_in _ (by omega)
   clear h4 hgs h1 htok
   clear h2 b1 b2 b3 b4 b5 b6 hlen HV0 HLR hbc hbm
   go_upto_region 13 with fail
   clear q0 q1 q2 q3 h3 h3b h4b
   obtain ⟨v7, w7, hrun, ho7, hg7⟩ := run_append_cl w5 A3 g.os (s, g.next) HM5.out (by first | omega | simp)
   have hb7 := bG (bA HB5.out (o := .cells #[.int .i64 s, .int .i64 g.next] 126)) hg7 (fun k hk => by cases hk)
   have hu7 := own_other (HU5.out.alloc (o := .cells #[.int .i64 s, .int .i64 g.next] 126)) hg7 (fun h => by cases h)
   have hr7 := own_other (HR5.out.alloc (o := .cells #[.int .i64 s, .int .i64 g.next] 126)) hg7 (fun h => by cases h)
   have HM7 := Hd (slm_own (show g.os.length + 1 = (g.os ++ [(s, g.next)]).length by simp) ho7)
   obtain ⟨A7, c7, rfl, hc7, _⟩ := own_rd ho7
   have HB7 := Hd hb7
   have HU7 := Hd hu7
   have HR7 := Hd hr7
   have HRUN := Hd hrun
   have hlu := HU5.out.lt
   have hsz7 : (w5).heap.size ≤ w7.heap.size := by have := hg7.size; simp at this; omega
   clear ho7 hg7 hb7 hu7 hr7 hrun
   have p0 := HU5.out.cell_ 0 (v := .int .i64 g.count) rfl
   have p1 := HU5.out.cell_ 1 (v := .int .i64 g.next) rfl
   have p2 := HU5.out.cell_ 2 (v := .int .i64 g.round) rfl
   have p3 := HU5.out.cell_ 3 (v := .slice A3 g.os.length g.os.length) rfl
   go_upto_region 14 with fail
   clear p1
   go_wp2_with (at_builtin; refine wpList_append_run _ rfl (.tmp 58) (.tmp 62) 44 rfl _ _ _ _ rfl rfl HRUN.out ?_)
   clear p0 p2 p3 HRUN
   have p0 := HU7.out.cell_ 0 (v := .int .i64 g.count) rfl
   have p1 := HU7.out.cell_ 1 (v := .int .i64 g.next) rfl
   have p2 := HU7.out.cell_ 2 (v := .int .i64 g.round) rfl
   have p3 := HU7.out.cell_ 3 (v := .slice A3 g.os.length g.os.length) rfl
   have f0 := HU7.out.free 0
   have f1 := HU7.out.free 1
   have f2 := HU7.out.free 2
   have f3 := HU7.out.free 3
   go_wp2_with fail
   refine (clipOwn_p A7 _ c7 _ hc7).mono ?_
   rintro e w8 ⟨_, rfl, rfl, rfl⟩
   have r0 := HR7.out.cell_ 0 (v := .int .i64 0) rfl
   have r1 := HR7.out.cell_ 1 (v := .int .i64 0) rfl
   have r2 := HR7.out.cell_ 2 (v := .int .i64 0) rfl
   have r3 := HR7.out.cell_ 3 (v := .slice none 0 0) rfl
   have k0 := HR7.out.free 0
   have k1 := HR7.out.free 1
   have k2 := HR7.out.free 2
   have k3 := HR7.out.free 3
   have hlr7 := HR7.out.lt
   have hlu7 := HU7.out.lt
   go_wp2
   have o2 := (((((HR7.out.far (p := ⟨w1.heap.size, 3, none⟩) (u := .slice A7 (g.os.length + 1) (g.os.length + 1)) hne2).far (p := ⟨w1.heap.size, 1, none⟩) (u := .int .i64 (g.next + 1)) hne2).set_ 0 (.int .i64 g.count)).set_ 1 (.int .i64 (g.next + 1))).set_ 2 (.int .i64 g.round)).set_ 3 (.slice A7 (g.os.length + 1) (g.os.length + 1))
   have t0 := o2.cell_ 0 (v := .int .i64 g.count) rfl
   have t1 := o2.cell_ 1 (v := .int .i64 (g.next + 1)) rfl
   have t2 := o2.cell_ 2 (v := .int .i64 g.round) rfl
   have t3 := o2.cell_ 3 (v := .slice A7 (g.os.length + 1) (g.os.length + 1)) rfl
   have hM7 : SlM owE 126 (w5).heap.size w7 (.slice A7 (g.os.length + 1) (g.os.length + 1)) (g.os ++ [(s, g.next)]) := by
    obtain ⟨A', c', e', g1, g2, g3⟩ := HM7.out
    injection e' with e1 _ e3
    subst e1
    exact ⟨A7, (g.os.length + 1), by simp, by simp, by simp at g1; omega, g3⟩
   have hfr : w.heap.size + 1 < (w5).heap.size := by omega
   have hM8 := (((((hM7.far (p := ⟨w1.heap.size, 3, none⟩) (u := .slice A7 (g.os.length + 1) (g.os.length + 1)) hlu).far (p := ⟨w1.heap.size, 1, none⟩) (u := .int .i64 (g.next + 1)) hlu).far (p := ⟨w.heap.size + 1, 0, none⟩) (u := .int .i64 g.count) hfr).far (p := ⟨w.heap.size + 1, 1, none⟩) (u := .int .i64 (g.next + 1)) hfr).far (p := ⟨w.heap.size + 1, 2, none⟩) (u := .int .i64 g.round) hfr).far (p := ⟨w.heap.size + 1, 3, none⟩) (u := .slice A7 (g.os.length + 1) (g.os.length + 1)) hfr
   refine bodyPost_ret (v := .tuple #[.agg #[.int .i64 g.count, .int .i64 (g.next + 1), .int .i64 g.round, .slice A7 (g.os.length + 1) (g.os.length + 1)], .int .i64 g.next, .bool false, .bool true]) (by simp [results, Tryz.results109, go_sem, t0, t1, t2, t3]) rfl ⟨_, rfl, _, by rw [HV.out], ?_, ?_⟩
   ·rw [HV.out]
    exact hM8.mono (show w.heap.size ≤ (w5).heap.size by omega)
   ·repeat (refine bS ?_ (by simp <;> omega))
    exact HB7.out
def lnF (fr : Bool) (ls : List Ln) (k : Nat) : List Ln := if fr = true then (ls.take k).map keepS ++ ls.drop k else ls
theorem lnF_zero (fr : Bool) (ls : List Ln) : lnF fr ls 0 = ls := by unfold lnF; split <;> simp
theorem lnF_len (fr : Bool) (ls : List Ln) (k : Nat) : (lnF fr ls k).length = ls.length := by
 unfold lnF
 split
 ·simp; omega
 ·rfl
theorem lnF_at {fr : Bool} {ls : List Ln} {k : Nat} (hk : k < ls.length) : (lnF fr ls k)[k]? = ls[k]? := by
 unfold lnF
 split
 ·rw [List.getElem?_append_right (by simp; omega), List.getElem?_drop]
  congr 1
  simp
  omega
 ·rfl
theorem lnF_keep {fr : Bool} {ls : List Ln} {k : Nat} {x : Ln} (e : ls[k]? = some x) (h : fr = false ∨ x.t = -1) : lnF fr ls (k + 1) = lnF fr ls k := by
 unfold lnF
 split
 ·rename_i hf
  have ht : x.t = -1 := by
   rcases h with h | h
   ·rw [hf] at h; cases h
   ·exact h
  obtain ⟨hk, e2⟩ := List.getElem?_eq_some_iff.1 e
  rw [List.take_add_one, e, List.drop_eq_getElem_cons hk, e2]
  simp [keepS, ht]
 ·rfl
theorem lnF_drop {ls : List Ln} {k : Nat} {x : Ln} (e : ls[k]? = some x) (h : x.t ≠ -1) : lnF true ls (k + 1) = (lnF true ls k).set k lnz := by
 unfold lnF
 simp only [if_true]
 obtain ⟨hk, e2⟩ := List.getElem?_eq_some_iff.1 e
 rw [List.take_add_one, e, List.set_append_right _ _ (by simp; omega)]
 have h1 : k - ((ls.take k).map keepS).length = 0 := by simp; omega
 rw [h1, List.drop_eq_getElem_cons hk, List.set_cons_zero]
 simp [keepS, h]
theorem lnF_all (fr : Bool) (c : Ca) : (⟨lnF fr c.ls c.ls.length, c.hand⟩ : Ca) = if fr = true then freC c else c := by
 unfold lnF freC
 cases fr <;> simp
set_option maxHeartbeats 4000000 in
theorem EnterSpace_any (vb vf vl vo : Value) (m : Ma) (s : Int) (w : World) (hM : MaR w vb vf vl vo m) (hfree : Free w) :
  Calls Tryz.prog 42 #[.agg #[vb, vf, vl, .int .i64 m.c.hand, .int .i64 m.g.count, .int .i64 m.g.next, .int .i64 m.g.round, vo, .int .i64 m.sp], .int .i64 s] w (Post2 fun v w' => ∃ v1 v2 v3 v4, v = .tuple #[.agg #[v1, v2, v3, .int .i64 (entV m s).c.hand, .int .i64 (entV m s).g.count, .int .i64 (entV m s).g.next, .int .i64 (entV m s).g.round, v4, .int .i64 (entV m s).sp], .bool (entO m s)] ∧ MaM w.heap.size w' v1 v2 v3 v4 (entV m s) ∧ Below w.heap.size w w') := by
 obtain ⟨W0, hW, hbx, hbo, hb0, hs0⟩ := box2 w #[vb, vf, vl, .int .i64 m.c.hand, .int .i64 m.g.count, .int .i64 m.g.next, .int .i64 m.g.round, vo, .int .i64 m.sp] 48 #[.slice none 0 0, .slice none 0 0, .slice none 0 0, .int .i64 0, .int .i64 0, .int .i64 0, .int .i64 0, .slice none 0 0, .int .i64 0] 48
 obtain ⟨m0q, m1q, m2q, m3q, m4q, m5q, m6q, m7q, m8q⟩ := cells9 hbx
 have HX0 := Hd hbx
 have HO0 := Hd hbo
 have HB0 := Hd hb0
 have HM := Hd hM
 clear hbx hbo hb0 hM
 clear m0q m1q m2q m3q m4q m5q m6q m7q m8q
 have HF := Hd hfree
 clear hfree
 obtain ⟨m00, m10, m20, m30, m40, m50, m60, m70, m80⟩ := cells9 HX0.out
 go_enter Tryz.func42, Tryz.ntmps42
 go_wp2_with fail
 refine (MachineValid_any vb vf vl vo m _ (HM.out.now HB0.out) (HF.out.now HB0.out)).mono ?_
 rintro e w1 ⟨rfl, hb1⟩
 have HX1 := Hd (HX0.out.below hb1)
 have HO1 := Hd (HO0.out.below hb1)
 have HB1 := Hd (bT HB0.out hb1)
 have hs1 : w.heap.size + 2 ≤ w1.heap.size := by have := hb1.size; omega
 clear m00 m10 m20 m30 m40 m50 m60 m70 m80
 clear hb1
 cases h1 : mav m with
 | false =>
  have HA : Hid (entO m s = false) := by show _ = _; unfold entO; rw [h1]; rfl
  have HV : Hid (entV m s = maz) := by show _ = _; unfold entV; rw [HA.out]; rfl
  obtain ⟨r0x, r1x, r2x, r3x, r4x, r5x, r6x, r7x, r8x⟩ := cells9 HO1.out
  obtain ⟨z0x, z1x, z2x, z3x, z4x, z5x, z6x, z7x, z8x⟩ := free9 HO1.out
  have hlr := HO1.out.lt
  go_wp2
  obtain ⟨t0, t1, t2, t3, t4, t5, t6, t7, t8⟩ := cells9 (set9z HO1.out)
  refine bodyPost_ret (v := .tuple #[.agg #[.slice none 0 0, .slice none 0 0, .slice none 0 0, .int .i64 0, .int .i64 0, .int .i64 0, .int .i64 0, .slice none 0 0, .int .i64 0], .bool false]) (by simp [results, Tryz.results42, go_sem, t0, t1, t2, t3, t4, t5, t6, t7, t8]) rfl ⟨_, rfl, _, _, _, _, by rw [HA.out, HV.out]; rfl, by rw [HV.out]; exact mam_z, ?_⟩
  repeat (refine bS ?_ (by simp <;> omega))
  exact HB1.out
 | true =>
 obtain ⟨a1, a2, a3, a4⟩ := mav_len h1
 obtain ⟨hz1, hz2, _⟩ := cav_parts (mav_parts h1).2.1
 obtain ⟨m01, m11, m21, m31, m41, m51, m61, m71, m81⟩ := cells9 HX1.out
 have HTK := Hd (TakeTag_any vo m.g s w1 (HM.out.o.now HB1.out))
 have HA1 : Hid (entO m s = (takG m.g s).2.2.2) := by show _ = _; unfold entO; rw [h1]; rfl
 have HV1 : Hid (entV m s = if entO m s = true then ⟨m.t, if (takG m.g s).2.2.1 = true then freC m.c else m.c, (takG m.g s).1, s⟩ else maz) := by show _ = _; unfold entV; rfl
 obtain ⟨⟨G, x1, fr, ok⟩, hG⟩ : ∃ q, takG m.g s = q := ⟨_, rfl⟩
 rw [hG] at HTK HA1 HV1
 replace HTK := HTK.out
 clear hG h1
 go_wp2_with fail
 refine HTK.mono ?_
 rintro e w2 ⟨_, rfl, v4, rfl, hG2, hb2⟩
 clear HTK
 have HX2 := Hd (HX1.out.below hb2)
 have HO2 := Hd (HO1.out.below hb2)
 have HB2 := Hd (bT HB1.out hb2)
 have hs2 : w1.heap.size ≤ w2.heap.size := hb2.size
 clear m01 m11 m21 m31 m41 m51 m61 m71 m81
 clear hb2
 obtain ⟨A7, c7, rfl, _⟩ := id hG2
 dsimp only at *
 have hp3 := Own.new_ w2 46 #[.int .i64 G.count, .int .i64 G.next, .int .i64 G.round, .slice A7 G.os.length c7]
 have hb3 : Below w2.heap.size w2 (w2.alloc (.cells #[.int .i64 G.count, .int .i64 G.next, .int .i64 G.round, .slice A7 G.os.length c7] 46)) := bA bR
 generalize hW3 : w2.alloc (.cells #[.int .i64 G.count, .int .i64 G.next, .int .i64 G.round, .slice A7 G.os.length c7] 46) = w3 at hp3 hb3
 have HX3 := Hd (HX2.out.below hb3)
 have HO3 := Hd (HO2.out.below hb3)
 have HB3 := Hd (bT HB2.out hb3)
 have HP3 := Hd hp3
 have HG3 := Hd ((hG2.now hb3).mono (show w.heap.size + 2 ≤ w1.heap.size by omega))
 have hs3 : w2.heap.size < w3.heap.size := hp3.lt
 clear hp3 hb3 hG2
 cases ok with
 | false =>
  have HA : Hid (entO m s = false) := HA1
  have HV : Hid (entV m s = maz) := by show _ = _; rw [HV1.out, HA.out]; rfl
  go_upto_region 4 with fail
  try rw [hW3]
  obtain ⟨r0x, r1x, r2x, r3x, r4x, r5x, r6x, r7x, r8x⟩ := cells9 HO3.out
  obtain ⟨z0x, z1x, z2x, z3x, z4x, z5x, z6x, z7x, z8x⟩ := free9 HO3.out
  have hlr := HO3.out.lt
  go_wp2
  obtain ⟨t0, t1, t2, t3, t4, t5, t6, t7, t8⟩ := cells9 (set9z HO3.out)
  refine bodyPost_ret (v := .tuple #[.agg #[.slice none 0 0, .slice none 0 0, .slice none 0 0, .int .i64 0, .int .i64 0, .int .i64 0, .int .i64 0, .slice none 0 0, .int .i64 0], .bool false]) (by simp [results, Tryz.results42, go_sem, t0, t1, t2, t3, t4, t5, t6, t7, t8]) rfl ⟨_, rfl, _, _, _, _, by rw [HA.out, HV.out]; rfl, by rw [HV.out]; exact mam_z, ?_⟩
  repeat (refine bS ?_ (by simp <;> omega))
  exact HB3.out
 | true =>
 have HA : Hid (entO m s = true) := HA1
 have HV : Hid (entV m s = ⟨m.t, ⟨lnF fr m.c.ls m.c.ls.length, m.c.hand⟩, G, s⟩) := by show _ = _; rw [HV1.out, HA.out, lnF_all]; rfl
 clear HA1 HV1
 go_upto_region 4 with fail
 try rw [hW3]
 clear hW3
 obtain ⟨m03, m13, m23, m33, m43, m53, m63, m73, m83⟩ := cells9 HX3.out
 go_wp2_with fail
 refine (mclone_any vb vf vl vo m _ (HM.out.now HB3.out) a1 a2 a3 a4).mono ?_
 rintro e w4 ⟨_, rfl, q1, q2, q3, q4, rfl, hM4, hb4⟩
 obtain ⟨B1, d1, rfl, _⟩ := hM4.t.b
 obtain ⟨B2, d2, rfl, _⟩ := hM4.t.f
 obtain ⟨B3, d3, rfl, _⟩ := hM4.l
 obtain ⟨B4, d4, rfl, _⟩ := hM4.o
 have hu5 := Own.new_ w4 48 #[.slice B1 m.t.bs.length d1, .slice B2 m.t.fs.length d2, .slice B3 m.c.ls.length d3, .int .i64 m.c.hand, .int .i64 m.g.count, .int .i64 m.g.next, .int .i64 m.g.round, .slice B4 m.g.os.length d4, .int .i64 m.sp]
 have hb5 : Below w4.heap.size w4 (w4.alloc (.cells #[.slice B1 m.t.bs.length d1, .slice B2 m.t.fs.length d2, .slice B3 m.c.ls.length d3, .int .i64 m.c.hand, .int .i64 m.g.count, .int .i64 m.g.next, .int .i64 m.g.round, .slice B4 m.g.os.length d4, .int .i64 m.sp] 48)) := bA bR
 generalize hW5 : w4.alloc (.cells #[.slice B1 m.t.bs.length d1, .slice B2 m.t.fs.length d2, .slice B3 m.c.ls.length d3, .int .i64 m.c.hand, .int .i64 m.g.count, .int .i64 m.g.next, .int .i64 m.g.round, .slice B4 m.g.os.length d4, .int .i64 m.sp] 48) = w5 at hu5 hb5
 have hbx5 := bT hb4 hb5
 have HP5 := Hd (HP3.out.below hbx5)
 have HO5 := Hd (HO3.out.below hbx5)
 have HB5 := Hd (bT HB3.out hbx5)
 have HM5 := Hd ((hM4.now hb5).mono (show w.heap.size + 2 ≤ w3.heap.size by omega))
 have HG5 := Hd (HG3.out.now hbx5)
 have HU5 := Hd hu5
 have hs4 : w3.heap.size ≤ w4.heap.size := hb4.size
 clear m03 m13 m23 m33 m43 m53 m63 m73 m83
 clear hM4 hb4 hb5 hu5 hbx5 HX3 HX2 HX1 HX0 HO3 HP3 HG3
 go_upto_region 7 with fail
 try rw [hW5]
 clear hW5
 have s0 := HP5.out.cell_ 0 (v := .int .i64 G.count) rfl
 have s1 := HP5.out.cell_ 1 (v := .int .i64 G.next) rfl
 have s2 := HP5.out.cell_ 2 (v := .int .i64 G.round) rfl
 have s3 := HP5.out.cell_ 3 (v := .slice A7 G.os.length c7) rfl
 obtain ⟨p0y, p1y, p2y, p3y, p4y, p5y, p6y, p7y, p8y⟩ := cells9 HU5.out
 have f4 := HU5.out.free 4
 have f5 := HU5.out.free 5
 have f6 := HU5.out.free 6
 have f7 := HU5.out.free 7
 have f8 := HU5.out.free 8
 have hlu := HU5.out.lt
 have n1 : w.heap.size + 1 ≠ w4.heap.size := by omega
 have v1 := HU5.out.set_ 4 (.int .i64 G.count)
 have v2 := v1.set_ 5 (.int .i64 G.next)
 have v3 := v2.set_ 6 (.int .i64 G.round)
 have v4 := v3.set_ 7 (.slice A7 G.os.length c7)
 have hu6 := v4.set_ 8 (.int .i64 s)
 have hm5' : MaM (w.heap.size + 2) w5 (.slice B1 m.t.bs.length d1) (.slice B2 m.t.fs.length d2) (.slice B3 m.c.ls.length d3) (.slice A7 G.os.length c7) ⟨m.t, m.c, G, s⟩ := ⟨HM5.out.t, HM5.out.l, HG5.out⟩
 have hm6 := ((((hm5'.farT HU5.out (i := 4) (u := .int .i64 G.count)).farT v1 (i := 5) (u := .int .i64 G.next)).farT v2 (i := 6) (u := .int .i64 G.round)).farT v3 (i := 7) (u := .slice A7 G.os.length c7)).farT v4 (i := 8) (u := .int .i64 s)
 have ho6 := ((((HO5.out.far (p := ⟨w4.heap.size, 4, none⟩) (u := .int .i64 G.count) n1).far (p := ⟨w4.heap.size, 5, none⟩) (u := .int .i64 G.next) n1).far (p := ⟨w4.heap.size, 6, none⟩) (u := .int .i64 G.round) n1).far (p := ⟨w4.heap.size, 7, none⟩) (u := .slice A7 G.os.length c7) n1).far (p := ⟨w4.heap.size, 8, none⟩) (u := .int .i64 s) n1
 have hww : w.heap.size ≤ w4.heap.size := by omega
 have hb6 := bS (bS (bS (bS (bS HB5.out (p := ⟨w4.heap.size, 4, none⟩) (u := .int .i64 G.count) hww) (p := ⟨w4.heap.size, 5, none⟩) (u := .int .i64 G.next) hww) (p := ⟨w4.heap.size, 6, none⟩) (u := .int .i64 G.round) hww) (p := ⟨w4.heap.size, 7, none⟩) (u := .slice A7 G.os.length c7) hww) (p := ⟨w4.heap.size, 8, none⟩) (u := .int .i64 s) hww
 generalize hW6 : ((((w5.setCell ⟨w4.heap.size, 4, none⟩ (.int .i64 G.count)).setCell ⟨w4.heap.size, 5, none⟩ (.int .i64 G.next)).setCell ⟨w4.heap.size, 6, none⟩ (.int .i64 G.round)).setCell ⟨w4.heap.size, 7, none⟩ (.slice A7 G.os.length c7)).setCell ⟨w4.heap.size, 8, none⟩ (.int .i64 s) = w6 at hu6 hm6 ho6 hb6
 have HDL2 : Hid (m.c.ls.length ≤ d3 ∧ d3 ≤ maxLen) := Hd ⟨hm6.l.own_.2.2.1, hm6.l.own_.2.2.2⟩
 obtain ⟨g3, cs3, rfl, hg3, O3, _⟩ := hm6.l.own_.1.own (by show 0 < m.c.ls.length; omega)
 have hu6' : Own w6 w4.heap.size 48 #[.slice B1 m.t.bs.length d1, .slice B2 m.t.fs.length d2, .slice (some ⟨g3, 0, none⟩) m.c.ls.length d3, .int .i64 (⟨m.t, m.c, G, s⟩ : Ma).c.hand, .int .i64 (⟨m.t, m.c, G, s⟩ : Ma).g.count, .int .i64 (⟨m.t, m.c, G, s⟩ : Ma).g.next, .int .i64 (⟨m.t, m.c, G, s⟩ : Ma).g.round, .slice A7 G.os.length c7, .int .i64 (⟨m.t, m.c, G, s⟩ : Ma).sp] := by simpa using hu6
 have HU6 := Hd hu6'
 have HT6 := Hd hm6.t
 have HI6 : Hid (MineE lnE 129 (w.heap.size + 2) w6 (some ⟨g3, 0, none⟩) (lnF fr m.c.ls 0)) := Hd (by rw [lnF_zero]; exact hm6.l.own_.1)
 have HS6 := Hd hm6.o
 have HO6 := Hd ho6
 have HB6 := Hd hb6
 have hne1 : w4.heap.size ≠ g3 := hu6.ne O3 (by decide)
 have hne2 : g3 ≠ w4.heap.size := fun h => hne1 h.symm
 have hne3 : w.heap.size + 1 ≠ g3 := ho6.ne O3 (by decide)
 have hne4 : g3 ≠ w.heap.size + 1 := fun h => hne3 h.symm
 clear hu6 hu6' hm6 ho6 hb6 v1 v2 v3 v4 hm5' O3 HU5 HO5 HP5 HG5 HM5
 go_upto_region 8 with fail
 try rw [hW6]
 clear hW6 s0 s1 s2 s3 p0y p1y p2y p3y p4y p5y p6y p7y p8y f4 f5 f6 f7 f8
 have p2y := HU6.out.cell_ 2 (v := .slice (some ⟨g3, 0, none⟩) m.c.ls.length d3) rfl
 clear HM HF
 go_wp2
 go_loopw [39] (fun u wr => ∃ k : Nat, k ≤ m.c.ls.length ∧ u = .int .i64 k ∧ Own wr w4.heap.size 48 #[.slice B1 m.t.bs.length d1, .slice B2 m.t.fs.length d2, .slice (some ⟨g3, 0, none⟩) m.c.ls.length d3, .int .i64 (⟨m.t, m.c, G, s⟩ : Ma).c.hand, .int .i64 (⟨m.t, m.c, G, s⟩ : Ma).g.count, .int .i64 (⟨m.t, m.c, G, s⟩ : Ma).g.next, .int .i64 (⟨m.t, m.c, G, s⟩ : Ma).g.round, .slice A7 G.os.length c7, .int .i64 (⟨m.t, m.c, G, s⟩ : Ma).sp] ∧ TaM (w.heap.size + 2) wr (.slice B1 m.t.bs.length d1) (.slice B2 m.t.fs.length d2) m.t ∧ MineE lnE 129 (w.heap.size + 2) wr (some ⟨g3, 0, none⟩) (lnF fr m.c.ls k) ∧ SlM owE 126 (w.heap.size + 2) wr (.slice A7 G.os.length c7) G.os ∧ Own wr (w.heap.size + 1) 48 #[.slice none 0 0, .slice none 0 0, .slice none 0 0, .int .i64 0, .int .i64 0, .int .i64 0, .int .i64 0, .slice none 0 0, .int .i64 0] ∧ Below w.heap.size w wr) (fun u _ => m.c.ls.length - (intOf u).toNat)
 case atStart => exact ⟨0, by omega, rfl, HU6.out, HT6.out, HI6.out, HS6.out, HO6.out, HB6.out⟩
 case round =>
  obtain ⟨k, hk, rfl, hu, ht, hi, hos, ho, hb⟩ := hrel
  clear p2y HU6 HT6 HI6 HS6 HO6 HB6
  by_cases hlt : k < m.c.ls.length
  ·have hki : (k : Int) < (m.c.ls.length : Int) := by omega
   have hk0 : (0 : Int) ≤ (k : Int) := by omega
   obtain ⟨x, ex⟩ : ∃ x, m.c.ls[k]? = some x := ⟨_, List.getElem?_eq_getElem hlt⟩
   have EX := Hd ex
   obtain ⟨bq, oq, eq1, hbq, y0, y1, y2, y3, y4, y5⟩ := hi.is.ln (by rw [lnF_at hlt]; exact ex)
   injection eq1 with eq1
   injection eq1 with eq1 eq2
   subst eq1 eq2
   rw [Nat.zero_add] at y0 y1 y2 y3 y4 y5
   clear ex
   have hf := Own.new_ wr 129 #[.bool x.v, .int .i64 x.t, .int .i64 x.p, .int .i64 x.f, .int .i64 x.r, .bool x.w]
   have hbf : Below wr.heap.size wr (wr.alloc (.cells #[.bool x.v, .int .i64 x.t, .int .i64 x.p, .int .i64 x.f, .int .i64 x.r, .bool x.w] 129)) := bA bR
   generalize hWF : wr.alloc (.cells #[.bool x.v, .int .i64 x.t, .int .i64 x.p, .int .i64 x.f, .int .i64 x.r, .bool x.w] 129) = wf at hf hbf
   go_upto_region 11 with fail
   try rw [hWF]
   have e0 := (hbf.cell (p := ⟨g3, k * 6, none⟩) hbq).trans y0
   have e1 := (hbf.cell (p := ⟨g3, k * 6 + 1, none⟩) hbq).trans y1
   have e2 := (hbf.cell (p := ⟨g3, k * 6 + 2, none⟩) hbq).trans y2
   have e3 := (hbf.cell (p := ⟨g3, k * 6 + 3, none⟩) hbq).trans y3
   have e4 := (hbf.cell (p := ⟨g3, k * 6 + 4, none⟩) hbq).trans y4
   have e5 := (hbf.cell (p := ⟨g3, k * 6 + 5, none⟩) hbq).trans y5
   have HU := Hd (hu.below hbf)
   have HT := Hd (ht.now hbf)
   have HI := Hd (hi.below hbf)
   have HS := Hd (hos.now hbf)
   have HO := Hd (ho.below hbf)
   have HB := Hd (bT hb hbf)
   have x1' := hf.cell_ 1 (v := .int .i64 x.t) rfl
   clear hf hbf hu ht hi hos ho hb y0 y1 y2 y3 y4 y5 hWF
   cases fr with
   | false =>
    have HN := Hd (lnF_keep (fr := false) EX.out (.inl rfl))
    clear e0 e1 e2 e3 e4 e5
    go_wp2
    go_roundw
    case rel => exact ⟨k + 1, by omega, by simp, HU.out, HT.out, by rw [HN.out]; exact HI.out, HS.out, HO.out, HB.out⟩
    case measure => simp [intOf]; omega
   | true =>
    by_cases htt : x.t = -1
    ·have HN := Hd (lnF_keep (fr := true) EX.out (.inr htt))
     have hb1 : (x.t != -1) = false := by rw [htt]; rfl
     clear e0 e1 e2 e3 e4 e5 htt
     go_wp2
     go_roundw
     case rel => exact ⟨k + 1, by omega, by simp, HU.out, HT.out, by rw [HN.out]; exact HI.out, HS.out, HO.out, HB.out⟩
     case measure => simp [intOf]; omega
    ·have HN := Hd (lnF_drop EX.out htt)
     have hb1 : (x.t != -1) = true := by rw [bne_iff_ne]; exact htt
     have hkl : k < (lnF true m.c.ls k).length := by rw [lnF_len]; exact hlt
     have HW := Hd (HI.out.wln hkl lnz)
     obtain ⟨_, cs3, u3, hg3, O3, _⟩ := HI.out.own (by omega)
     injection u3 with u3
     injection u3 with u3
     subst u3
     have z0 := O3.free (k * 6)
     have z1 := O3.free (k * 6 + 1)
     have z2 := O3.free (k * 6 + 2)
     have z3 := O3.free (k * 6 + 3)
     have z4 := O3.free (k * 6 + 4)
     have z5 := O3.free (k * 6 + 5)
     have oa := O3.set_ (k * 6) (.bool false)
     have ob := oa.set_ (k * 6 + 1) (.int .i64 0)
     have oc := ob.set_ (k * 6 + 2) (.int .i64 0)
     have od := oc.set_ (k * 6 + 3) (.int .i64 0)
     have oe := od.set_ (k * 6 + 4) (.int .i64 0)
     have htb := ((((((HT.out.b.farT O3 (u := .bool false) (i := k * 6) (by decide)).farT oa (u := .int .i64 0) (i := k * 6 + 1) (by decide)).farT ob (u := .int .i64 0) (i := k * 6 + 2) (by decide)).farT oc (u := .int .i64 0) (i := k * 6 + 3) (by decide)).farT od (u := .int .i64 0) (i := k * 6 + 4) (by decide)).farT oe (u := .bool false) (i := k * 6 + 5) (by decide))
     have htf := ((((((HT.out.f.farT O3 (u := .bool false) (i := k * 6) (by decide)).farT oa (u := .int .i64 0) (i := k * 6 + 1) (by decide)).farT ob (u := .int .i64 0) (i := k * 6 + 2) (by decide)).farT oc (u := .int .i64 0) (i := k * 6 + 3) (by decide)).farT od (u := .int .i64 0) (i := k * 6 + 4) (by decide)).farT oe (u := .bool false) (i := k * 6 + 5) (by decide))
     have hto := ((((((HS.out.farT O3 (u := .bool false) (i := k * 6) (by decide)).farT oa (u := .int .i64 0) (i := k * 6 + 1) (by decide)).farT ob (u := .int .i64 0) (i := k * 6 + 2) (by decide)).farT oc (u := .int .i64 0) (i := k * 6 + 3) (by decide)).farT od (u := .int .i64 0) (i := k * 6 + 4) (by decide)).farT oe (u := .bool false) (i := k * 6 + 5) (by decide))
     have hu6 := ((((((HU.out.far (p := ⟨g3, k * 6, none⟩) (u := .bool false) hne1).far (p := ⟨g3, k * 6 + 1, none⟩) (u := .int .i64 0) hne1).far (p := ⟨g3, k * 6 + 2, none⟩) (u := .int .i64 0) hne1).far (p := ⟨g3, k * 6 + 3, none⟩) (u := .int .i64 0) hne1).far (p := ⟨g3, k * 6 + 4, none⟩) (u := .int .i64 0) hne1).far (p := ⟨g3, k * 6 + 5, none⟩) (u := .bool false) hne1)
     have ho6 := ((((((HO.out.far (p := ⟨g3, k * 6, none⟩) (u := .bool false) hne3).far (p := ⟨g3, k * 6 + 1, none⟩) (u := .int .i64 0) hne3).far (p := ⟨g3, k * 6 + 2, none⟩) (u := .int .i64 0) hne3).far (p := ⟨g3, k * 6 + 3, none⟩) (u := .int .i64 0) hne3).far (p := ⟨g3, k * 6 + 4, none⟩) (u := .int .i64 0) hne3).far (p := ⟨g3, k * 6 + 5, none⟩) (u := .bool false) hne3)
     have hgb : w.heap.size ≤ g3 := by omega
     have HTB := Hd htb
     have HTF := Hd htf
     have HTO := Hd hto
     have HU6 := Hd hu6
     have HO6 := Hd ho6
     have p2y := HU.out.cell_ 2 (v := .slice (some ⟨g3, 0, none⟩) m.c.ls.length d3) rfl
     clear htb htf hto hu6 ho6 oa ob oc od oe O3 htt hkl
     go_wp2
     go_roundw
     case rel =>
      refine ⟨k + 1, by omega, by simp, HU6.out, ⟨HTB.out, HTF.out⟩, by rw [HN.out]; exact HW.out, HTO.out, HO6.out, ?_⟩
      repeat (refine bS ?_ hgb)
      exact HB.out
     case measure => simp [intOf]; omega
  ·obtain rfl : k = m.c.ls.length := by omega
   have hki : decide ((m.c.ls.length : Int) < (m.c.ls.length : Int)) = false := by simp
   have HU := Hd hu
   have HO := Hd ho
   have HB := Hd hb
   have HMM : Hid (MaM (w.heap.size + 2) wr (.slice B1 m.t.bs.length d1) (.slice B2 m.t.fs.length d2) (.slice (some ⟨g3, 0, none⟩) m.c.ls.length d3) (.slice A7 G.os.length c7) ⟨m.t, ⟨lnF fr m.c.ls m.c.ls.length, m.c.hand⟩, G, s⟩) := by
    refine ⟨ht, ?_, hos⟩
    exact ⟨some ⟨g3, 0, none⟩, d3, by show _ = Value.slice _ (lnF fr m.c.ls m.c.ls.length).length _; rw [lnF_len], by show (lnF fr m.c.ls m.c.ls.length).length ≤ d3; rw [lnF_len]; exact HDL2.out.1, HDL2.out.2, hi⟩
   clear hu ho hb ht hi hos
   obtain ⟨r0x, r1x, r2x, r3x, r4x, r5x, r6x, r7x, r8x⟩ := cells9 HO.out
   obtain ⟨z0x, z1x, z2x, z3x, z4x, z5x, z6x, z7x, z8x⟩ := free9 HO.out
   obtain ⟨p0o, p1o, p2o, p3o, p4o, p5o, p6o, p7o, p8o⟩ := cells9 HU.out
   have hlr := HO.out.lt
   have hlu2 := HU.out.lt
   go_wp2
   have o3 := HO.out.set9 (.slice B1 m.t.bs.length d1) (.slice B2 m.t.fs.length d2) (.slice (some ⟨g3, 0, none⟩) m.c.ls.length d3) (.int .i64 m.c.hand) (.int .i64 G.count) (.int .i64 G.next) (.int .i64 G.round) (.slice A7 G.os.length c7) (.int .i64 s)
   obtain ⟨p0t, p1t, p2t, p3t, p4t, p5t, p6t, p7t, p8t⟩ := cells9 o3
   refine bodyPost_ret (v := .tuple #[.agg #[.slice B1 m.t.bs.length d1, .slice B2 m.t.fs.length d2, .slice (some ⟨g3, 0, none⟩) m.c.ls.length d3, .int .i64 (⟨m.t, m.c, G, s⟩ : Ma).c.hand, .int .i64 (⟨m.t, m.c, G, s⟩ : Ma).g.count, .int .i64 (⟨m.t, m.c, G, s⟩ : Ma).g.next, .int .i64 (⟨m.t, m.c, G, s⟩ : Ma).g.round, .slice A7 G.os.length c7, .int .i64 (⟨m.t, m.c, G, s⟩ : Ma).sp], .bool true]) (by simp [results, Tryz.results42, go_sem, p0t, p1t, p2t, p3t, p4t, p5t, p6t, p7t, p8t]) rfl ⟨_, rfl, _, _, _, _, by rw [HA.out, HV.out], ?_, ?_⟩
   ·rw [HV.out]
    exact (HMM.out.far9 HO.out _ _ _ _ _ _ _ _ _).mono (by omega)
   ·repeat (refine bS ?_ (by simp <;> omega))
    exact HB.out
end Go.Proofs.YtibpnlojlfcpmaaGreatDoor
