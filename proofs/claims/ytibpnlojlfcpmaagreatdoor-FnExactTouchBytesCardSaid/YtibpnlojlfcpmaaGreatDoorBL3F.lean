/- A part of the proofs of this seat: L3F, TagI. -/
import Derived.Deep.RegionHeldLaw
import Derived.Test.YtibpnlojlfcpmaaGreatDoorBCaI
import Derived.Test.YtibpnlojlfcpmaaGreatDoorBSpS
set_option linter.unusedVariables false
set_option linter.unusedSimpArgs false
set_option maxRecDepth 1000000
namespace Go.Proofs.YtibpnlojlfcpmaaGreatDoor
open Go.RowKit
theorem post2_of {f : FuncId} {args : Array Value} {w : World} {v : Value} (h : Calls Tryz.prog f args w fun r w' => r = .returned v ∧ Below w.heap.size w w') : Calls Tryz.prog f args w (Post2 fun v' w' => v' = v ∧ Below w.heap.size w w') := h.mono fun _ _ h => ⟨_, h.1, rfl, h.2⟩
theorem keq_iff {a b c d : Int} : keq a b c d = true ↔ (a, b) = (c, d) := by
 unfold keq
 simp
theorem keq_no {a b c d : Int} (h : keq a b c d = false) : ¬ (a, b) = (c, d) := fun hh => by rw [keq_iff.2 hh] at h; cases h
theorem TaR.fsl {w : World} {vb : Value} {A : Option Addr} {c : Nat} {t : Tab} (h : TaR w vb (.slice A t.fs.length c) t) : Rs frE w.heap.size w A t.fs := by
 obtain ⟨A', c', e, _, _, h4⟩ := h.f
 injection e with e1 _ _
 rw [e1]
 exact h4
set_option maxHeartbeats 2000000 in
theorem l3Find_any (vb vf : Value) (t : Tab) (s p : Int) (w : World) (hT : TaR w vb vf t) (htv : tv t = true) (hk : kval (s, p) = true) :
    Calls Tryz.prog 57 #[.agg #[vb, vf], .agg #[.int .i64 s, .int .i64 p]] w fun r w' => ∃ n : Int, r = .returned (.tuple #[.int .i64 (fndI t.fs s p), .int .i64 n]) ∧ Below w.heap.size w w' := by
  obtain ⟨⟨_, hfl, hb1, hbl⟩, _⟩ := tv_parts htv
  obtain ⟨ch, hch, _⟩ := fnd_chain htv hk
  obtain ⟨hbk, hbe⟩ := bkt_in hk hb1
  have hcl := (show ch.length ≤ t.fs.length from by
    obtain ⟨x, _, ec⟩ := bch_some hch
    exact chn_len ec)
  have HT := Hd hT
  obtain ⟨Ab, cb, rfl, hbc, hbm, hB⟩ := hT.b
  obtain ⟨Af, cf, rfl, hfc, hfm, hF⟩ := hT.f
  have hbx := (Own.new_ w 40 #[.slice Ab t.bs.length cb, .slice Af t.fs.length cf]).alloc (o := .cells #[.int .i64 s, .int .i64 p] 61)
  have hky := Own.new_ (w.alloc (.cells #[.slice Ab t.bs.length cb, .slice Af t.fs.length cf] 40)) 61 #[.int .i64 s, .int .i64 p]
  have hb0 : Below w.heap.size w ((w.alloc (.cells #[.slice Ab t.bs.length cb, .slice Af t.fs.length cf] 40)).alloc (.cells #[.int .i64 s, .int .i64 p] 61)) := bA (bA bR)
  rw [show (w.alloc (.cells #[.slice Ab t.bs.length cb, .slice Af t.fs.length cf] 40)).heap.size = w.heap.size + 1 by simp] at hky
  generalize hW : (w.alloc (.cells #[.slice Ab t.bs.length cb, .slice Af t.fs.length cf] 40)).alloc (.cells #[.int .i64 s, .int .i64 p] 61) = W0 at hbx hky hb0
  have q0 := hbx.cell_ 0 (v := .slice Ab t.bs.length cb) rfl
  have q1 := hbx.cell_ 1 (v := .slice Af t.fs.length cf) rfl
  have k0 := hky.cell_ 0 (v := .int .i64 s) rfl
  have k1 := hky.cell_ 1 (v := .int .i64 p) rfl
  have HX0 := Hd hbx
  have HK0 := Hd hky
  have HB0 := Hd hb0
  clear hbx hky hb0
  have HH := Hd (fun W => post2_of (l2Hash_any s p t.bs.length W hk ⟨by omega, by omega⟩))
  have HC := Hd (fun W (h : TaR W (.slice Ab t.bs.length cb) (.slice Af t.fs.length cf) t) => (l3Chain_any (.slice Ab t.bs.length cb) (.slice Af t.fs.length cf) t (bkt t s p) W h hbk (by omega)).mono (R' := Post2 fun v w' => ∃ v1, v = .tuple #[v1, .bool (bch t (bkt t s p)).isSome] ∧ (∀ ch, bch t (bkt t s p) = some ch → SlR intE w' v1 (ints ch)) ∧ Below W.heap.size W w') (fun _ _ ⟨v, e1, e2, e3⟩ => ⟨_, e1, v, rfl, e2, e3⟩))
  go_enter Tryz.func57, Tryz.ntmps57
  go_wp2
  go_region_held_law (fun w' => w'.cell? ⟨w.heap.size, 0, none⟩ = some (.slice Ab t.bs.length cb) ∧ w'.cell? ⟨w.heap.size, 1, none⟩ = some (.slice Af t.fs.length cf) ∧ w'.cell? ⟨w.heap.size + 1, 0, none⟩ = some (.int .i64 s) ∧ w'.cell? ⟨w.heap.size + 1, 1, none⟩ = some (.int .i64 p)) (go_keep) (first
    | (go_at_call 135
       refine (HH.out _).mono ?_
       rintro _ w1 ⟨_, rfl, rfl, hb1⟩
       rw [hbe]
       have HB1 := Hd (bT (bD HB0.out) hb1)
       have hx1 := HX0.out.drew.below hb1
       have hk1 := HK0.out.drew.below hb1
       have d0 := hx1.cell_ 0 (v := .slice Ab t.bs.length cb) rfl
       have d1 := hx1.cell_ 1 (v := .slice Af t.fs.length cf) rfl
       have d2 := hk1.cell_ 0 (v := .int .i64 s) rfl
       have d3 := hk1.cell_ 1 (v := .int .i64 p) rfl
       have HX1 := Hd hx1
       have HK1 := Hd hk1
       clear hx1 hk1 hb1)
    | (go_at_call 134
       refine (HC.out _ (HT.out.now HB1.out)).mono ?_
       rintro _ w2 ⟨_, rfl, v, rfl, hsl, hb2⟩
       have HB2 := Hd (bT HB1.out hb2)
       have hx2 := HX1.out.below hb2
       have hk2 := HK1.out.below hb2
       have e0 := hx2.cell_ 0 (v := .slice Ab t.bs.length cb) rfl
       have e1 := hx2.cell_ 1 (v := .slice Af t.fs.length cf) rfl
       have e2 := hk2.cell_ 0 (v := .int .i64 s) rfl
       have e3 := hk2.cell_ 1 (v := .int .i64 p) rfl
       have HX2 := Hd hx2
       have HK2 := Hd hk2
       have hsv := hsl ch hch
       obtain ⟨Al, cl, rfl, hlc, hlm, hL⟩ := hsv
       have HL := Hd hL
       rw [ints_length] at *
       clear hx2 hk2 hb2 hsl hL d0 d1 d2 d3))
  all_goals
    go_wp2
    clear e0 e1 e2 e3
    go_loopw [8] (fun u wi => ∃ r : Nat, r ≤ ch.length ∧ u = .int .i64 r ∧ Hid (∀ (m j : Nat) (f : Fr), m < r → ch[m]? = some j → t.fs[j]? = some f → ¬ (f.s, f.p) = (s, p)) ∧ Below w2.heap.size w2 wi) (fun u _ => ch.length - (intOf u).toNat)
    case atStart => exact ⟨0, by omega, rfl, (fun m j f h => absurd h (by omega)), bR⟩
    case round =>
      obtain ⟨r, hr, rfl, hacc, hbi⟩ := hrel
      by_cases hlr : r < ch.length
      · obtain ⟨j, ej⟩ : ∃ j, ch[r]? = some j := ⟨_, List.getElem?_eq_getElem hlr⟩
        obtain ⟨f, ef, huf⟩ := bch_mem hch j (List.mem_of_getElem? ej)
        obtain ⟨hjl, _⟩ := List.getElem?_eq_some_iff.1 ef
        obtain ⟨b5, o5, hAl, hb5, y0⟩ := (HL.out.now (Nat.le_refl _) hbi).i1 (ints_get ej)
        obtain ⟨b4, o4, hAf, hb4, x0, x1, x2, x3, x4⟩ := ((HT.out.now (bT HB2.out hbi)).fsl).fr ef
        subst hAl hAf
        have z0 := xcell (w := wr) ((HX2.out.below hbi).cell_ 0 (v := .slice Ab t.bs.length cb) rfl) (HX2.out.below hbi).lt
        have z1 := xcell (w := wr) ((HX2.out.below hbi).cell_ 1 (v := .slice (some ⟨b4, o4, none⟩) t.fs.length cf) rfl) (HX2.out.below hbi).lt
        have z2 := xcell (w := wr) ((HK2.out.below hbi).cell_ 0 (v := .int .i64 s) rfl) (HK2.out.below hbi).lt
        have z3 := xcell (w := wr) ((HK2.out.below hbi).cell_ 1 (v := .int .i64 p) rfl) (HK2.out.below hbi).lt
        have z4 := xcell (w := wr) y0 (by simp; omega)
        have z5 := xcell (w := wr) x1 (by show b4 < _; omega)
        have z6 := xcell (w := wr) x2 (by show b4 < _; omega)
        have hj2 : (j : Int) < (t.fs.length : Int) := by omega
        have he := fun W => eql_key f.s f.p s p W
        have hi1 : ((ints ch).length : Int) = (ch.length : Int) := by rw [ints_length]
        cases hq1 : keq f.s f.p s p with
        | true =>
          rw [hq1] at he
          have H := Hd (chain_some htv hk hch ej ef (keq_iff.1 hq1))
          have Y0 := Hd y0
          clear ej ef huf y0 x0 x1 x2 x3 x4
          go_wp2
          refine wp_region_ext (by kernel_rfl) (by kernel_rfl) ?_
          repeat (go_big_quiet_step (fail))
          refine wpQuiet_nil ?_
          intro _ hw'
          obtain ⟨⟨wq, hq⟩, hw''⟩ := hw'
          subst hw''
          try dsimp only
          have z7 := (hq.cell (p := ⟨b5, o5 + r, none⟩) hb5).trans Y0.out
          go_wp2
          go_ret2
          exact ⟨_, by rw [H.out]; rfl, bT HB2.out (bT hbi hq)⟩
        | false =>
          rw [hq1] at he
          have HACC : Hid (∀ (m j : Nat) (f : Fr), m < r + 1 → ch[m]? = some j → t.fs[j]? = some f → ¬ (f.s, f.p) = (s, p)) := fun m j' f' hm e1 e2 => by
            rcases Nat.lt_or_ge m r with h | h
            · exact hacc.out m j' f' h e1 e2
            · obtain rfl : m = r := by omega
              rw [ej] at e1
              injection e1 with e1
              subst e1
              rw [ef] at e2
              injection e2 with e2
              subst e2
              exact keq_no hq1
          clear ej ef huf y0 x0 x1 x2 x3 x4
          go_wp2
          refine wp_region_ext (by kernel_rfl) (by kernel_rfl) ?_
          repeat (go_big_quiet_step (fail))
          refine wpQuiet_nil ?_
          intro _ hw'
          obtain ⟨⟨wq, hq⟩, hw''⟩ := hw'
          subst hw''
          try dsimp only
          go_wp2
          go_roundw
          case rel => exact ⟨r + 1, by omega, by go_num, HACC, bT hbi hq⟩
          case measure => simp [intOf]; omega
      · obtain rfl : r = ch.length := by omega
        have H : Hid (fndI t.fs s p = -1) := chain_none htv hk hch (fun m j f e1 e2 => hacc.out m j f (List.getElem?_eq_some_iff.1 e1).1 e1 e2)
        go_wp2
        go_ret2
        exact ⟨_, by rw [H.out]; rfl, bT HB2.out hbi⟩
set_option maxHeartbeats 1000000 in
theorem TagOf_any (vo : Value) (g : Tg) (s : Int) (w : World) (hT : SlR owE w vo g.os) :
  Calls Tryz.prog 30 #[.agg #[.int .i64 g.count, .int .i64 g.next, .int .i64 g.round, vo], .int .i64 s] w fun r w' => r = .returned (.tuple #[.int .i64 (tgT g s), .bool (tgO g s)]) ∧ Below w.heap.size w w' := by
 have HV := Hd hT
 obtain ⟨A, cc, rfl, hbc, hbm, hL⟩ := hT
 have hfm2 : g.os.length ≤ 9223372036854775807 := by unfold maxLen at hbm; omega
 have HL := Hd hL
 have hbx := Own.new_ w 46 #[.int .i64 g.count, .int .i64 g.next, .int .i64 g.round, .slice A g.os.length cc]
 have hbz : Below w.heap.size w (w.alloc (.cells #[.int .i64 g.count, .int .i64 g.next, .int .i64 g.round, .slice A g.os.length cc] 46)) := bA bR
 have hsz0 : (w.alloc (.cells #[.int .i64 g.count, .int .i64 g.next, .int .i64 g.round, .slice A g.os.length cc] 46)).heap.size = w.heap.size + 1 := by simp
 generalize hW : w.alloc (.cells #[.int .i64 g.count, .int .i64 g.next, .int .i64 g.round, .slice A g.os.length cc] 46) = W0 at hbx hbz hsz0
 have q0 := hbx.cell_ 0 (v := .int .i64 g.count) rfl
 have q1 := hbx.cell_ 1 (v := .int .i64 g.next) rfl
 have q2 := hbx.cell_ 2 (v := .int .i64 g.round) rfl
 have q3 := hbx.cell_ 3 (v := .slice A g.os.length cc) rfl
 have HBX := Hd hbx
 clear hL hbx
 go_enter Tryz.func30, Tryz.ntmps30
 go_wp2_with fail
 refine (TagsValid_any _ g _ (HV.out.now hbz)).mono ?_
 rintro e w1 ⟨rfl, hb1⟩
 have HBX1 := Hd (HBX.out.below hb1)
 have HBZ1 := Hd (bT hbz hb1)
 clear hb1 q0 q1 q2 q3
 have q0 := HBX1.out.cell_ 0 (v := .int .i64 g.count) rfl
 have q1 := HBX1.out.cell_ 1 (v := .int .i64 g.next) rfl
 have q2 := HBX1.out.cell_ 2 (v := .int .i64 g.round) rfl
 have q3 := HBX1.out.cell_ 3 (v := .slice A g.os.length cc) rfl
 cases h1 : tgv g with
 | false =>
  obtain ⟨e1, e2⟩ := tgO_no (s := s) h1
  have E1 := Hd e1
  have E2 := Hd e2
  clear e1 e2
  go_wp2
  go_ret2
  exact ⟨by rw [E1.out, E2.out]; rfl, HBZ1.out⟩
 | true =>
  go_wp2_with fail
  refine (own_any _ g s _ (HV.out.now HBZ1.out)).mono ?_
  rintro e w2 ⟨rfl, hb2⟩
  have HBX2 := Hd (HBX1.out.below hb2)
  have HBZ2 := Hd (bT HBZ1.out hb2)
  clear hb2 q0 q1 q2 q3
  have q0 := HBX2.out.cell_ 0 (v := .int .i64 g.count) rfl
  have q1 := HBX2.out.cell_ 1 (v := .int .i64 g.next) rfl
  have q2 := HBX2.out.cell_ 2 (v := .int .i64 g.round) rfl
  have q3 := HBX2.out.cell_ 3 (v := .slice A g.os.length cc) rfl
  by_cases h2 : 0 ≤ ownI g.os s
  case neg =>
   obtain ⟨e1, e2⟩ := tgO_neg h2
   have E1 := Hd e1
   have E2 := Hd e2
   have h2b : ownI g.os s < 0 := by omega
   clear e1 e2
   go_wp2
   go_ret2
   exact ⟨by rw [E1.out, E2.out]; rfl, HBZ2.out⟩
  case pos =>
   obtain ⟨k, o, hk, eo, _⟩ := ownI_lt h2
   obtain ⟨e1, e2⟩ := tgO_yes h1 hk eo
   have E1 := Hd e1
   have E2 := Hd e2
   have HN := Hd hk
   have EO := Hd eo
   have hkl := (List.getElem?_eq_some_iff.1 eo).1
   have HOW : Hid (∀ W, SlR owE W (.slice A g.os.length cc) g.os → Calls Tryz.prog 90 #[.agg #[.int .i64 g.count, .int .i64 g.next, .int .i64 g.round, .slice A g.os.length cc], .int .i64 s] W fun r w' => r = .returned (.int .i64 (k : Int)) ∧ Below W.heap.size W w') := fun W h => by rw [← hk]; exact own_any _ g s W h
   rw [hk]
   have h2b : ¬ (k : Int) < 0 := by omega
   clear e1 e2 hk eo h2 q0 q1 q2 q3
   obtain ⟨b, ob, rfl, hbb, d0, d1⟩ := (HL.out.now (Nat.le_refl _) HBZ2.out).ow EO.out
   have q0 := xcell (HBX2.out.cell_ 0 (v := .int .i64 g.count) rfl) HBX2.out.lt
   have q1 := xcell (HBX2.out.cell_ 1 (v := .int .i64 g.next) rfl) HBX2.out.lt
   have q2 := xcell (HBX2.out.cell_ 2 (v := .int .i64 g.round) rfl) HBX2.out.lt
   have q3 := xcell (HBX2.out.cell_ 3 (v := .slice (some ⟨b, ob, none⟩) g.os.length cc) rfl) HBX2.out.lt
   have y1 := xcell d1 hbb
   clear d0 d1
   go_wp2
   refine wp_region_ext (by kernel_rfl) (by kernel_rfl) ?_
   repeat (go_big_quiet_step ((go_at_call 90; exact ext_call (HOW.out _ (HV.out.now (bT HBZ2.out (Ext.ok _)))))))
   refine wpQuiet_nil ?_
   intro _ hw'
   obtain ⟨⟨wq, hq⟩, hw''⟩ := hw'
   subst hw''
   try dsimp only
   go_wp2
   go_ret2
   exact ⟨by rw [E1.out, E2.out]; rfl, bT HBZ2.out hq⟩
set_option maxHeartbeats 1000000 in
theorem tagFor_any (vb vf vl vo : Value) (m : Ma) (s p : Int) (w : World) (hM : MaR w vb vf vl vo m) :
  Calls Tryz.prog 111 #[.agg #[vb, vf, vl, .int .i64 m.c.hand, .int .i64 m.g.count, .int .i64 m.g.next, .int .i64 m.g.round, vo, .int .i64 m.sp], .int .i64 s, .int .i64 p] w fun r w' => r = .returned (.tuple #[.int .i64 (tagT m s p), .bool (tagO m s p)]) ∧ Below w.heap.size w w' := by
 have HM := Hd hM
 clear hM
 obtain ⟨W0, hW, hbx, hbz, _⟩ := box1 w #[vb, vf, vl, .int .i64 m.c.hand, .int .i64 m.g.count, .int .i64 m.g.next, .int .i64 m.g.round, vo, .int .i64 m.sp] 48
 have HX0 := Hd hbx
 have HB0 := Hd hbz
 clear hbx hbz
 obtain ⟨m00, m10, m20, m30, m40, m50, m60, m70, m80⟩ := cells9 HX0.out
 by_cases h : 128 ≤ p
 ·have E1 : Hid (tagT m s p = -1) := if_pos h
  have E2 : Hid (tagO m s p = true) := if_pos h
  go_enter Tryz.func111, Tryz.ntmps111
  go_wp2
  go_ret2
  exact ⟨by rw [E1.out, E2.out]; rfl, HB0.out⟩
 ·have E1 : Hid (tagT m s p = tgT m.g s) := if_neg h
  have E2 : Hid (tagO m s p = tgO m.g s) := if_neg h
  go_enter Tryz.func111, Tryz.ntmps111
  go_wp2_with fail
  refine (TagOf_any vo m.g s _ (HM.out.o.now HB0.out)).mono ?_
  rintro e w1 ⟨rfl, hb1⟩
  go_wp2
  go_ret2
  exact ⟨by rw [E1.out, E2.out]; rfl, bT HB0.out hb1⟩
set_option maxHeartbeats 1000000 in
theorem l6Tag_any (vb vf vl vo : Value) (m : Ma) (s p : Int) (w : World) (hM : MaR w vb vf vl vo m) (hg : tgv m.g = true) :
  Calls Tryz.prog 178 #[.agg #[vb, vf, vl, .int .i64 m.c.hand, .int .i64 m.g.count, .int .i64 m.g.next, .int .i64 m.g.round, vo, .int .i64 m.sp], .int .i64 s, .int .i64 p] w fun r w' => r = .returned (.tuple #[.int .i64 (tagT m s p), .bool (tagO m s p)]) ∧ Below w.heap.size w w' := by
 have HM := Hd hM
 clear hM
 obtain ⟨W0, hW, hbx, hbz, _⟩ := box1 w #[vb, vf, vl, .int .i64 m.c.hand, .int .i64 m.g.count, .int .i64 m.g.next, .int .i64 m.g.round, vo, .int .i64 m.sp] 48
 have HX0 := Hd hbx
 have HB0 := Hd hbz
 clear hbx hbz
 obtain ⟨m00, m10, m20, m30, m40, m50, m60, m70, m80⟩ := cells9 HX0.out
 by_cases h : 128 ≤ p
 ·have E1 : Hid (tagT m s p = -1) := if_pos h
  have E2 : Hid (tagO m s p = true) := if_pos h
  go_enter Tryz.func178, Tryz.ntmps178
  go_wp2
  go_ret2
  exact ⟨by rw [E1.out, E2.out]; rfl, HB0.out⟩
 ·have E1 : Hid (tagT m s p = tgT m.g s) := if_neg h
  have E2 : Hid (tagO m s p = tgO m.g s) := if_neg h
  by_cases h2 : 0 ≤ ownI m.g.os s
  case neg =>
   obtain ⟨e1, e2⟩ := tgO_neg h2
   have F1 := Hd e1
   have F2 := Hd e2
   have h2b : ownI m.g.os s < 0 := by omega
   clear e1 e2
   go_enter Tryz.func178, Tryz.ntmps178
   go_wp2_with fail
   refine (l5Find_any _ m.g s _ (HM.out.o.now HB0.out)).mono ?_
   rintro e w1 ⟨rfl, hb1⟩
   go_wp2
   go_ret2
   exact ⟨by rw [E1.out, E2.out, F1.out, F2.out]; rfl, bT HB0.out hb1⟩
  case pos =>
   obtain ⟨k, o, hk, eo, _⟩ := ownI_lt h2
   obtain ⟨e1, e2⟩ := tgO_yes hg hk eo
   have F1 := Hd e1
   have F2 := Hd e2
   have HN := Hd hk
   have EO := Hd eo
   have hkl := (List.getElem?_eq_some_iff.1 eo).1
   have h2b : ¬ (k : Int) < 0 := by omega
   clear e1 e2 hk eo h2
   go_enter Tryz.func178, Tryz.ntmps178
   go_wp2_with fail
   refine (l5Find_any _ m.g s _ (HM.out.o.now HB0.out)).mono ?_
   rintro e w1 ⟨rfl, hb1⟩
   rw [HN.out]
   obtain ⟨A, cc, rfl, hbc, hbm, hL⟩ := HM.out.o
   obtain ⟨b, ob, rfl, hbb, d0, d1⟩ := (hL.now (Nat.le_refl _) (bT HB0.out hb1)).ow EO.out
   have HB1 := Hd (bT HB0.out hb1)
   have m7 := (HX0.out.below hb1).cell_ 7 (v := .slice (some ⟨b, ob, none⟩) m.g.os.length cc) rfl
   clear m00 m10 m20 m30 m40 m50 m60 m70 m80 hb1
   go_wp2
   go_ret2
   exact ⟨by rw [E1.out, E2.out, F1.out, F2.out]; rfl, HB1.out⟩
end Go.Proofs.YtibpnlojlfcpmaaGreatDoor
