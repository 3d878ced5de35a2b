/- A part of the proofs of this seat: KyP, L3F, LnS, ProtS, TagI, TagS. -/
import Derived.Deep.RegionHeldLaw
import Derived.Below
import Derived.Test.YtibpnlojlfcpmaaGreatDoorAMa
import Derived.Test.YtibpnlojlfcpmaaGreatDoorACaS
set_option linter.unusedVariables false
set_option linter.unusedSimpArgs false
set_option maxRecDepth 1000000
namespace Go.Proofs.YtibpnlojlfcpmaaGreatDoor
open Go.RowKit
theorem post2_of {f : FuncId} {args : Array Value} {w : World} {v : Value} (h : Calls Tryz.prog f args w fun r w' => r = .returned v ∧ Below w.heap.size w w') : Calls Tryz.prog f args w (Post2 fun v' w' => v' = v ∧ Below w.heap.size w w') := h.mono fun _ _ h => ⟨_, h.1, rfl, h.2⟩
theorem keq_iff {a b c d : Int} : keq a b c d = true ↔ (a, b) = (c, d) := by
 unfold keq
 simp
theorem keq_no {a b c d : Int} (h : keq a b c d = false) : ¬ (a, b) = (c, d) := fun hh => by rw [keq_iff.2 hh] at h; cases h
theorem TaR.fsl {w : World} {vb : Value} {A : Option Addr} {c : Nat} {t : Tab} (h : TaR w vb (.slice A t.fs.length c) t) : Rs frE w.heap.size w A t.fs := by
 obtain ⟨A', c', e, _, _, h4⟩ := h.f
 injection e with e1 _ _
 rw [e1]
 exact h4
set_option maxHeartbeats 2000000 in
theorem l3Find_any (vb vf : Value) (t : Tab) (s p : Int) (w : World) (hT : TaR w vb vf t) (htv : tv t = true) (hk : kval (s, p) = true) :
    Calls Tryz.prog 57 #[.agg #[vb, vf], .agg #[.int .i64 s, .int .i64 p]] w fun r w' => ∃ n : Int, r = .returned (.tuple #[.int .i64 (fndI t.fs s p), .int .i64 n]) ∧ Below w.heap.size w w' := by
  obtain ⟨⟨_, hfl, hb1, hbl⟩, _⟩ := tv_parts htv
  obtain ⟨ch, hch, _⟩ := fnd_chain htv hk
  obtain ⟨hbk, hbe⟩ := bkt_in hk hb1
  have hcl := (show ch.length ≤ t.fs.length from by
    obtain ⟨x, _, ec⟩ := bch_some hch
    exact chn_len ec)
  have HT := Hd hT
  obtain ⟨Ab, cb, rfl, hbc, hbm, hB⟩ := hT.b
  obtain ⟨Af, cf, rfl, hfc, hfm, hF⟩ := hT.f
  have hbx := (Own.new_ w 40 #[.slice Ab t.bs.length cb, .slice Af t.fs.length cf]).alloc (o := .cells #[.int .i64 s, .int .i64 p] 61)
  have hky := Own.new_ (w.alloc (.cells #[.slice Ab t.bs.length cb, .slice Af t.fs.length cf] 40)) 61 #[.int .i64 s, .int .i64 p]
  have hb0 : Below w.heap.size w ((w.alloc (.cells #[.slice Ab t.bs.length cb, .slice Af t.fs.length cf] 40)).alloc (.cells #[.int .i64 s, .int .i64 p] 61)) := bA (bA bR)
  rw [show (w.alloc (.cells #[.slice Ab t.bs.length cb, .slice Af t.fs.length cf] 40)).heap.size = w.heap.size + 1 by simp] at hky
  generalize hW : (w.alloc (.cells #[.slice Ab t.bs.length cb, .slice Af t.fs.length cf] 40)).alloc (.cells #[.int .i64 s, .int .i64 p] 61) = W0 at hbx hky hb0
  have q0 := hbx.cell_ 0 (v := .slice Ab t.bs.length cb) rfl
  have q1 := hbx.cell_ 1 (v := .slice Af t.fs.length cf) rfl
  have k0 := hky.cell_ 0 (v := .int .i64 s) rfl
  have k1 := hky.cell_ 1 (v := .int .i64 p) rfl
  have HX0 := Hd hbx
  have HK0 := Hd hky
  have HB0 := Hd hb0
  clear hbx hky hb0
  have HH := Hd (fun W => post2_of (l2Hash_any s p t.bs.length W hk ⟨by omega, by omega⟩))
  have HC := Hd (fun W (h : TaR W (.slice Ab t.bs.length cb) (.slice Af t.fs.length cf) t) => (l3Chain_any (.slice Ab t.bs.length cb) (.slice Af t.fs.length cf) t (bkt t s p) W h hbk (by omega)).mono (R' := Post2 fun v w' => ∃ v1, v = .tuple #[v1, .bool (bch t (bkt t s p)).isSome] ∧ (∀ ch, bch t (bkt t s p) = some ch → SlR intE w' v1 (ints ch)) ∧ Below W.heap.size W w') (fun _ _ ⟨v, e1, e2, e3⟩ => ⟨_, e1, v, rfl, e2, e3⟩))
  go_enter Tryz.func57, Tryz.ntmps57
  go_wp2
  go_region_held_law (fun w' => w'.cell? ⟨w.heap.size, 0, none⟩ = some (.slice Ab t.bs.length cb) ∧ w'.cell? ⟨w.heap.size, 1, none⟩ = some (.slice Af t.fs.length cf) ∧ w'.cell? ⟨w.heap.size + 1, 0, none⟩ = some (.int .i64 s) ∧ w'.cell? ⟨w.heap.size + 1, 1, none⟩ = some (.int .i64 p)) (go_keep) (first
    | (go_at_call 135
       refine (HH.out _).mono ?_
       rintro _ w1 ⟨_, rfl, rfl, hb1⟩
       rw [hbe]
       have HB1 := Hd (bT (bD HB0.out) hb1)
       have hx1 := HX0.out.drew.below hb1
       have hk1 := HK0.out.drew.below hb1
       have d0 := hx1.cell_ 0 (v := .slice Ab t.bs.length cb) rfl
       have d1 := hx1.cell_ 1 (v := .slice Af t.fs.length cf) rfl
       have d2 := hk1.cell_ 0 (v := .int .i64 s) rfl
       have d3 := hk1.cell_ 1 (v := .int .i64 p) rfl
       have HX1 := Hd hx1
       have HK1 := Hd hk1
       clear hx1 hk1 hb1)
    | (go_at_call 134
       refine (HC.out _ (HT.out.now HB1.out)).mono ?_
       rintro _ w2 ⟨_, rfl, v, rfl, hsl, hb2⟩
       have HB2 := Hd (bT HB1.out hb2)
       have hx2 := HX1.out.below hb2
       have hk2 := HK1.out.below hb2
       have e0 := hx2.cell_ 0 (v := .slice Ab t.bs.length cb) rfl
       have e1 := hx2.cell_ 1 (v := .slice Af t.fs.length cf) rfl
       have e2 := hk2.cell_ 0 (v := .int .i64 s) rfl
       have e3 := hk2.cell_ 1 (v := .int .i64 p) rfl
       have HX2 := Hd hx2
       have HK2 := Hd hk2
       have hsv := hsl ch hch
       obtain ⟨Al, cl, rfl, hlc, hlm, hL⟩ := hsv
       have HL := Hd hL
       rw [ints_length] at *
       clear hx2 hk2 hb2 hsl hL d0 d1 d2 d3))
  all_goals
    go_wp2
    clear e0 e1 e2 e3
    go_loopw [8] (fun u wi => ∃ r : Nat, r ≤ ch.length ∧ u = .int .i64 r ∧ Hid (∀ (m j : Nat) (f : Fr), m < r → ch[m]? = some j → t.fs[j]? = some f → ¬ (f.s, f.p) = (s, p)) ∧ Below w2.heap.size w2 wi) (fun u _ => ch.length - (intOf u).toNat)
    case atStart => exact ⟨0, by omega, rfl, (fun m j f h => absurd h (by omega)), bR⟩
    case round =>
      obtain ⟨r, hr, rfl, hacc, hbi⟩ := hrel
      by_cases hlr : r < ch.length
      · obtain ⟨j, ej⟩ : ∃ j, ch[r]? = some j := ⟨_, List.getElem?_eq_getElem hlr⟩
        obtain ⟨f, ef, huf⟩ := bch_mem hch j (List.mem_of_getElem? ej)
        obtain ⟨hjl, _⟩ := List.getElem?_eq_some_iff.1 ef
        obtain ⟨b5, o5, hAl, hb5, y0⟩ := (HL.out.now (Nat.le_refl _) hbi).i1 (ints_get ej)
        obtain ⟨b4, o4, hAf, hb4, x0, x1, x2, x3, x4⟩ := ((HT.out.now (bT HB2.out hbi)).fsl).fr ef
        subst hAl hAf
        have z0 := xcell (w := wr) ((HX2.out.below hbi).cell_ 0 (v := .slice Ab t.bs.length cb) rfl) (HX2.out.below hbi).lt
        have z1 := xcell (w := wr) ((HX2.out.below hbi).cell_ 1 (v := .slice (some ⟨b4, o4, none⟩) t.fs.length cf) rfl) (HX2.out.below hbi).lt
        have z2 := xcell (w := wr) ((HK2.out.below hbi).cell_ 0 (v := .int .i64 s) rfl) (HK2.out.below hbi).lt
        have z3 := xcell (w := wr) ((HK2.out.below hbi).cell_ 1 (v := .int .i64 p) rfl) (HK2.out.below hbi).lt
        have z4 := xcell (w := wr) y0 (by simp; omega)
        have z5 := xcell (w := wr) x1 (by show b4 < _; omega)
        have z6 := xcell (w := wr) x2 (by show b4 < _; omega)
        have hj2 : (j : Int) < (t.fs.length : Int) := by omega
        have he := fun W => eql_key f.s f.p s p W
        have hi1 : ((ints ch).length : Int) = (ch.length : Int) := by rw [ints_length]
        cases hq1 : keq f.s f.p s p with
        | true =>
          rw [hq1] at he
          have H := Hd (chain_some htv hk hch ej ef (keq_iff.1 hq1))
          have Y0 := Hd y0
          clear ej ef huf y0 x0 x1 x2 x3 x4
          go_wp2
          refine wp_region_ext (by kernel_rfl) (by kernel_rfl) ?_
          repeat (go_big_quiet_step (fail))
          refine wpQuiet_nil ?_
          intro _ hw'
          obtain ⟨⟨wq, hq⟩, hw''⟩ := hw'
          subst hw''
          try dsimp only
          have z7 := (hq.cell (p := ⟨b5, o5 + r, none⟩) hb5).trans Y0.out
          go_wp2
          go_ret2
          exact ⟨_, by rw [H.out]; rfl, bT HB2.out (bT hbi hq)⟩
        | false =>
          rw [hq1] at he
          have HACC : Hid (∀ (m j : Nat) (f : Fr), m < r + 1 → ch[m]? = some j → t.fs[j]? = some f → ¬ (f.s, f.p) = (s, p)) := fun m j' f' hm e1 e2 => by
            rcases Nat.lt_or_ge m r with h | h
            · exact hacc.out m j' f' h e1 e2
            · obtain rfl : m = r := by omega
              rw [ej] at e1
              injection e1 with e1
              subst e1
              rw [ef] at e2
              injection e2 with e2
              subst e2
              exact keq_no hq1
          clear ej ef huf y0 x0 x1 x2 x3 x4
          go_wp2
          refine wp_region_ext (by kernel_rfl) (by kernel_rfl) ?_
          repeat (go_big_quiet_step (fail))
          refine wpQuiet_nil ?_
          intro _ hw'
          obtain ⟨⟨wq, hq⟩, hw''⟩ := hw'
          subst hw''
          try dsimp only
          go_wp2
          go_roundw
          case rel => exact ⟨r + 1, by omega, by go_num, HACC, bT hbi hq⟩
          case measure => simp [intOf]; omega
      · obtain rfl : r = ch.length := by omega
        have H : Hid (fndI t.fs s p = -1) := chain_none htv hk hch (fun m j f e1 e2 => hacc.out m j f (List.getElem?_eq_some_iff.1 e1).1 e1 e2)
        go_wp2
        go_ret2
        exact ⟨_, by rw [H.out]; rfl, bT HB2.out hbi⟩
set_option maxHeartbeats 4000000 in
theorem l6Line_any (vb vf vl vo : Value) (m : Ma) (xt xp xf xr : Int) (xw : Bool) (w : World) (hM : MaR w vb vf vl vo m) (htv : tv m.t = true) (hgv : tgv m.g = true) (hp256 : inR xp 256 = true) :
    Calls Tryz.prog 132 #[.agg #[vb, vf, vl, .int .i64 m.c.hand, .int .i64 m.g.count, .int .i64 m.g.next, .int .i64 m.g.round, vo, .int .i64 m.sp], .agg #[.bool true, .int .i64 xt, .int .i64 xp, .int .i64 xf, .int .i64 xr, .bool xw]] w fun r w' => r = .returned (.bool (lnM m ⟨true, xt, xp, xf, xr, xw⟩)) ∧ Below w.heap.size w w' := by
  have HM := Hd hM
  obtain ⟨Af, cf, rfl, hfc, hfm, hF⟩ := hM.t.f
  have HFS := Hd hF
  clear hM hF
  have hbx := (Own.new_ w 48 #[vb, .slice Af m.t.fs.length cf, vl, .int .i64 m.c.hand, .int .i64 m.g.count, .int .i64 m.g.next, .int .i64 m.g.round, vo, .int .i64 m.sp]).alloc (o := .cells #[.bool true, .int .i64 xt, .int .i64 xp, .int .i64 xf, .int .i64 xr, .bool xw] 129)
  have hbl := Own.new_ (w.alloc (.cells #[vb, .slice Af m.t.fs.length cf, vl, .int .i64 m.c.hand, .int .i64 m.g.count, .int .i64 m.g.next, .int .i64 m.g.round, vo, .int .i64 m.sp] 48)) 129 #[.bool true, .int .i64 xt, .int .i64 xp, .int .i64 xf, .int .i64 xr, .bool xw]
  have hb0 : Below w.heap.size w ((w.alloc (.cells #[vb, .slice Af m.t.fs.length cf, vl, .int .i64 m.c.hand, .int .i64 m.g.count, .int .i64 m.g.next, .int .i64 m.g.round, vo, .int .i64 m.sp] 48)).alloc (.cells #[.bool true, .int .i64 xt, .int .i64 xp, .int .i64 xf, .int .i64 xr, .bool xw] 129)) := bA (bA bR)
  rw [show (w.alloc (.cells #[vb, .slice Af m.t.fs.length cf, vl, .int .i64 m.c.hand, .int .i64 m.g.count, .int .i64 m.g.next, .int .i64 m.g.round, vo, .int .i64 m.sp] 48)).heap.size = w.heap.size + 1 by simp] at hbl
  generalize hW : (w.alloc (.cells #[vb, .slice Af m.t.fs.length cf, vl, .int .i64 m.c.hand, .int .i64 m.g.count, .int .i64 m.g.next, .int .i64 m.g.round, vo, .int .i64 m.sp] 48)).alloc (.cells #[.bool true, .int .i64 xt, .int .i64 xp, .int .i64 xf, .int .i64 xr, .bool xw] 129) = W0 at hbx hbl hb0
  have HX0 := Hd hbx
  have HL0 := Hd hbl
  have HB0 := Hd hb0
  clear hbx hbl hb0
  have m0 := HX0.out.cell_ 0 (v := vb) rfl
  have m1 := HX0.out.cell_ 1 (v := .slice Af m.t.fs.length cf) rfl
  have m4 := HX0.out.cell_ 4 (v := .int .i64 m.g.count) rfl
  have m5 := HX0.out.cell_ 5 (v := .int .i64 m.g.next) rfl
  have m6 := HX0.out.cell_ 6 (v := .int .i64 m.g.round) rfl
  have m7 := HX0.out.cell_ 7 (v := vo) rfl
  have x1 := HL0.out.cell_ 1 (v := .int .i64 xt) rfl
  have x2 := HL0.out.cell_ 2 (v := .int .i64 xp) rfl
  by_cases hp : 128 ≤ xp
  case pos =>
    by_cases ht : xt = -1
    case neg =>
      have HE : Hid (lnM m ⟨true, xt, xp, xf, xr, xw⟩ = false) := lnM_sh rfl (fun h => ht (h.1 hp))
      have ht3 : (xt == (-1 : Int)) = false := by rw [beq_eq_false_iff_ne]; exact ht
      go_enter Tryz.func132, Tryz.ntmps132
      go_wp2
      go_ret
      exact ⟨by rw [HE.out]; rfl, HB0.out⟩
    case pos =>
      subst ht
      have hln := lnM_at2 (m := m) (f := xf) (r := xr) (w := xw) ⟨fun _ => rfl, fun _ => hp⟩ (lnSp_sh hp)
      have hkv := lnSp_kval (m := m) (x := ⟨true, -1, xp, xf, xr, xw⟩) hgv hp256 (lnSp_sh hp)
      go_enter Tryz.func132, Tryz.ntmps132
      go_wp2
      have HK := Hd (sKeyFor_any 0 xp)
      have HFN := Hd (fun W (h : TaR W vb (.slice Af m.t.fs.length cf) m.t) => l3Find_any vb (.slice Af m.t.fs.length cf) m.t (keyI 0 xp) xp W h htv hkv)
      have hidx := @fndI_lt m.t.fs (keyI 0 xp) xp
      generalize keyI 0 xp = ks at *
      generalize hN : fndI m.t.fs ks xp = N at *
      go_region_held_law (fun w' => w'.cell? ⟨w.heap.size, 0, none⟩ = some vb ∧ w'.cell? ⟨w.heap.size, 1, none⟩ = some (.slice Af m.t.fs.length cf) ∧ w'.cell? ⟨w.heap.size + 1, 2, none⟩ = some (.int .i64 xp)) (go_keep) (first
        | (go_at_call 96
           refine (HK.out _).mono ?_
           rintro _ w5 ⟨rfl, hb5⟩
           have HB5 := Hd (bT (bD HB0.out) hb5)
           have HX5 := Hd (HX0.out.drew.below hb5)
           have HL5 := Hd (HL0.out.drew.below hb5)
           have d0 := HX5.out.cell_ 0 (v := vb) rfl
           have d1 := HX5.out.cell_ 1 (v := .slice Af m.t.fs.length cf) rfl
           have d2 := HL5.out.cell_ 2 (v := .int .i64 xp) rfl
           clear hb5)
        | (go_at_call 57
           refine (HFN.out _ (HM.out.t.now HB5.out)).mono ?_
           rintro _ w6 ⟨stp, rfl, hb6⟩
           have HB6 := Hd (bT HB5.out hb6)
           have HX6 := Hd (HX5.out.below hb6)
           have HL6 := Hd (HL5.out.below hb6)
           have e0 := HX6.out.cell_ 0 (v := vb) rfl
           have e1 := HX6.out.cell_ 1 (v := .slice Af m.t.fs.length cf) rfl
           have e2 := HL6.out.cell_ 2 (v := .int .i64 xp) rfl
           clear hb6 d0 d1 d2))
      all_goals
        clear m0 m1 m4 m5 m6 m7 x1 x2 e0 e1 e2
        have l1 := xcell (HL6.out.cell_ 1 (v := .int .i64 (-1)) rfl) HL6.out.lt
        have l3 := xcell (HL6.out.cell_ 3 (v := .int .i64 xf) rfl) HL6.out.lt
        have l4 := xcell (HL6.out.cell_ 4 (v := .int .i64 xr) rfl) HL6.out.lt
        have l5 := xcell (HL6.out.cell_ 5 (v := .bool xw) rfl) HL6.out.lt
        have l6 := xcell (HX6.out.cell_ 1 (v := .slice Af m.t.fs.length cf) rfl) HX6.out.lt
        by_cases hn : 0 ≤ N
        case neg =>
          have HE : Hid (lnM m ⟨true, -1, xp, xf, xr, xw⟩ = false) := by show _ = _; rw [hln, decide_eq_false hn]; rfl
          clear hidx hln
          go_wp2
          have hn2 : ¬ 0 ≤ N := by omega
          refine wp_region_ext (by kernel_rfl) (by kernel_rfl) ?_
          repeat (go_big_quiet_step (fail))
          refine wpQuiet_nil ?_
          intro _ hw'
          obtain ⟨⟨wq, hq⟩, hw''⟩ := hw'
          subst hw''
          try dsimp only
          go_wp2
          go_ret
          exact ⟨by rw [HE.out]; rfl, bT HB6.out hq⟩
        case pos =>
          obtain ⟨i, f, rfl, ef, _, _⟩ := hidx hn
          obtain ⟨b', o', eA, hbb', f0, f1, f2, f3, f4⟩ := (HFS.out.below HB6.out).fr ef
          subst eA
          have hfr := xcell f3 (by have := HB6.out.size; show b' < _; omega)
          rw [decide_eq_true hn, Int.toNat_natCast, List.getD_eq_getElem?_getD, ef, Option.getD_some, Bool.true_and] at hln
          have hil := (List.getElem?_eq_some_iff.1 ef).1
          clear f0 f1 f2 f3 f4 ef hidx
          by_cases hf : (i : Int) = xf
          case neg =>
            have HE : Hid (lnM m ⟨true, -1, xp, xf, xr, xw⟩ = false) := by show _ = _; rw [hln, decide_eq_false hf]; rfl
            clear hln
            go_wp2
            have hf2 : ((i : Int) == xf) = false := by rw [beq_eq_false_iff_ne]; exact hf
            have hn2 : 0 ≤ (i : Int) := by omega
            refine wp_region_ext (by kernel_rfl) (by kernel_rfl) ?_
            repeat (go_big_quiet_step (fail))
            refine wpQuiet_nil ?_
            intro _ hw'
            obtain ⟨⟨wq, hq⟩, hw''⟩ := hw'
            subst hw''
            try dsimp only
            go_wp2
            go_ret
            exact ⟨by rw [HE.out]; rfl, bT HB6.out hq⟩
          case pos =>
          subst hf
          by_cases hr : f.r = xr
          case neg =>
            have HE : Hid (lnM m ⟨true, -1, xp, i, xr, xw⟩ = false) := by show _ = _; rw [hln, decide_eq_false hr]; simp
            clear hln
            go_wp2
            have hr2 : (f.r == xr) = false := by rw [beq_eq_false_iff_ne]; exact hr
            have hn2 : 0 ≤ (i : Int) := by omega
            refine wp_region_ext (by kernel_rfl) (by kernel_rfl) ?_
            repeat (go_big_quiet_step (fail))
            refine wpQuiet_nil ?_
            intro _ hw'
            obtain ⟨⟨wq, hq⟩, hw''⟩ := hw'
            subst hw''
            try dsimp only
            go_wp2
            go_ret
            exact ⟨by rw [HE.out]; rfl, bT HB6.out hq⟩
          case pos =>
            subst hr
            rw [decide_eq_true rfl, decide_eq_true rfl, Bool.true_and, Bool.true_and] at hln
            cases xw with
            | false =>
              have HE : Hid (lnM m ⟨true, -1, xp, i, f.r, false⟩ = true) := by show _ = _; rw [hln]; rfl
              clear hln
              go_wp2
              have hf2 : ((i : Int) == (i : Int)) = true := beq_self_eq_true _
              have hr2 : (f.r == f.r) = true := beq_self_eq_true _
              have hn2 : 0 ≤ (i : Int) := by omega
              refine wp_region_ext (by kernel_rfl) (by kernel_rfl) ?_
              repeat (go_big_quiet_step (fail))
              refine wpQuiet_nil ?_
              intro _ hw'
              obtain ⟨⟨wq, hq⟩, hw''⟩ := hw'
              subst hw''
              try dsimp only
              go_wp2
              go_ret
              exact ⟨by rw [HE.out]; rfl, bT HB6.out hq⟩
            | true =>
              have HE : Hid (lnM m ⟨true, -1, xp, i, f.r, true⟩ = true) := by show _ = _; rw [hln, decide_eq_true hp]; rfl
              clear hln
              go_wp2
              have hf2 : ((i : Int) == (i : Int)) = true := beq_self_eq_true _
              have hr2 : (f.r == f.r) = true := beq_self_eq_true _
              have hn2 : 0 ≤ (i : Int) := by omega
              have ht4 : ((-1 : Int) == (-1 : Int)) = true := rfl
              refine wp_region_ext (by kernel_rfl) (by kernel_rfl) ?_
              repeat (go_big_quiet_step (fail))
              refine wpQuiet_nil ?_
              intro _ hw'
              obtain ⟨⟨wq, hq⟩, hw''⟩ := hw'
              subst hw''
              try dsimp only
              go_wp2
              go_ret
              exact ⟨by rw [HE.out]; rfl, bT HB6.out hq⟩
  case neg =>
    by_cases ht : xt = -1
    case pos =>
      subst ht
      have HE : Hid (lnM m ⟨true, -1, xp, xf, xr, xw⟩ = false) := lnM_sh rfl (fun h => hp (h.2 rfl))
      go_enter Tryz.func132, Tryz.ntmps132
      go_wp2
      go_ret
      exact ⟨by rw [HE.out]; rfl, HB0.out⟩
    case neg =>
      have hop := lnSp_of (m := m) (x := ⟨true, xt, xp, xf, xr, xw⟩) hgv hp
      have ht2 : (xt != (-1 : Int)) = true := by rw [bne_iff_ne]; exact ht
      have ht3 : (xt == (-1 : Int)) = false := by rw [beq_eq_false_iff_ne]; exact ht
      go_enter Tryz.func132, Tryz.ntmps132
      go_wp2_with fail
      refine (sSpaceOf_any vo m.g xt _ (HM.out.o.now HB0.out)).mono ?_
      rintro e w1 ⟨rfl, hb1⟩
      have HX1 := Hd (HX0.out.below hb1)
      have HL1 := Hd (HL0.out.below hb1)
      have HB1 := Hd (bT HB0.out hb1)
      clear hb1 m0 m1 m4 m5 m6 m7 x1 x2
      have m0 := HX1.out.cell_ 0 (v := vb) rfl
      have m1 := HX1.out.cell_ 1 (v := .slice Af m.t.fs.length cf) rfl
      have m4 := HX1.out.cell_ 4 (v := .int .i64 m.g.count) rfl
      have m5 := HX1.out.cell_ 5 (v := .int .i64 m.g.next) rfl
      have m6 := HX1.out.cell_ 6 (v := .int .i64 m.g.round) rfl
      have m7 := HX1.out.cell_ 7 (v := vo) rfl
      have x1 := HL1.out.cell_ 1 (v := .int .i64 xt) rfl
      have x2 := HL1.out.cell_ 2 (v := .int .i64 xp) rfl
      cases hso : spO m.g xt with
      | false =>
        have HE : Hid (lnM m ⟨true, xt, xp, xf, xr, xw⟩ = false) := lnM_sp rfl (hop.2 hso)
        go_wp2
        go_ret
        exact ⟨by rw [HE.out]; rfl, HB1.out⟩
      | true =>
        have hsp := hop.1 hso
        have hln := lnM_at2 (m := m) (f := xf) (r := xr) (w := xw) ⟨fun h => absurd h (by omega), fun h => absurd h ht⟩ hsp
        have hkv := lnSp_kval (m := m) (x := ⟨true, xt, xp, xf, xr, xw⟩) hgv hp256 hsp
        generalize spV m.g xt = sp at *
        clear hop hsp
        go_wp2
        have HK := Hd (sKeyFor_any sp xp)
        have HFN := Hd (fun W (h : TaR W vb (.slice Af m.t.fs.length cf) m.t) => l3Find_any vb (.slice Af m.t.fs.length cf) m.t (keyI sp xp) xp W h htv hkv)
        have hidx := @fndI_lt m.t.fs (keyI sp xp) xp
        generalize keyI sp xp = ks at *
        generalize hN : fndI m.t.fs ks xp = N at *
        go_region_held_law (fun w' => w'.cell? ⟨w.heap.size, 0, none⟩ = some vb ∧ w'.cell? ⟨w.heap.size, 1, none⟩ = some (.slice Af m.t.fs.length cf) ∧ w'.cell? ⟨w.heap.size + 1, 2, none⟩ = some (.int .i64 xp)) (go_keep) (first
          | (go_at_call 96
             refine (HK.out _).mono ?_
             rintro _ w5 ⟨rfl, hb5⟩
             have HB5 := Hd (bT (bD HB1.out) hb5)
             have HX5 := Hd (HX1.out.drew.below hb5)
             have HL5 := Hd (HL1.out.drew.below hb5)
             have d0 := HX5.out.cell_ 0 (v := vb) rfl
             have d1 := HX5.out.cell_ 1 (v := .slice Af m.t.fs.length cf) rfl
             have d2 := HL5.out.cell_ 2 (v := .int .i64 xp) rfl
             clear hb5)
          | (go_at_call 57
             refine (HFN.out _ (HM.out.t.now HB5.out)).mono ?_
             rintro _ w6 ⟨stp, rfl, hb6⟩
             have HB6 := Hd (bT HB5.out hb6)
             have HX6 := Hd (HX5.out.below hb6)
             have HL6 := Hd (HL5.out.below hb6)
             have e0 := HX6.out.cell_ 0 (v := vb) rfl
             have e1 := HX6.out.cell_ 1 (v := .slice Af m.t.fs.length cf) rfl
             have e2 := HL6.out.cell_ 2 (v := .int .i64 xp) rfl
             clear hb6 d0 d1 d2))
        all_goals
          clear m0 m1 m4 m5 m6 m7 x1 x2 e0 e1 e2
          have l1 := xcell (HL6.out.cell_ 1 (v := .int .i64 (xt)) rfl) HL6.out.lt
          have l3 := xcell (HL6.out.cell_ 3 (v := .int .i64 xf) rfl) HL6.out.lt
          have l4 := xcell (HL6.out.cell_ 4 (v := .int .i64 xr) rfl) HL6.out.lt
          have l5 := xcell (HL6.out.cell_ 5 (v := .bool xw) rfl) HL6.out.lt
          have l6 := xcell (HX6.out.cell_ 1 (v := .slice Af m.t.fs.length cf) rfl) HX6.out.lt
          by_cases hn : 0 ≤ N
          case neg =>
            have HE : Hid (lnM m ⟨true, xt, xp, xf, xr, xw⟩ = false) := by show _ = _; rw [hln, decide_eq_false hn]; rfl
            clear hidx hln
            go_wp2
            have hn2 : ¬ 0 ≤ N := by omega
            refine wp_region_ext (by kernel_rfl) (by kernel_rfl) ?_
            repeat (go_big_quiet_step (fail))
            refine wpQuiet_nil ?_
            intro _ hw'
            obtain ⟨⟨wq, hq⟩, hw''⟩ := hw'
            subst hw''
            try dsimp only
            go_wp2
            go_ret
            exact ⟨by rw [HE.out]; rfl, bT HB6.out hq⟩
          case pos =>
            obtain ⟨i, f, rfl, ef, _, _⟩ := hidx hn
            obtain ⟨b', o', eA, hbb', f0, f1, f2, f3, f4⟩ := (HFS.out.below HB6.out).fr ef
            subst eA
            have hfr := xcell f3 (by have := HB6.out.size; show b' < _; omega)
            rw [decide_eq_true hn, Int.toNat_natCast, List.getD_eq_getElem?_getD, ef, Option.getD_some, Bool.true_and] at hln
            have hil := (List.getElem?_eq_some_iff.1 ef).1
            clear f0 f1 f2 f3 f4 ef hidx
            by_cases hf : (i : Int) = xf
            case neg =>
              have HE : Hid (lnM m ⟨true, xt, xp, xf, xr, xw⟩ = false) := by show _ = _; rw [hln, decide_eq_false hf]; rfl
              clear hln
              go_wp2
              have hf2 : ((i : Int) == xf) = false := by rw [beq_eq_false_iff_ne]; exact hf
              have hn2 : 0 ≤ (i : Int) := by omega
              refine wp_region_ext (by kernel_rfl) (by kernel_rfl) ?_
              repeat (go_big_quiet_step (fail))
              refine wpQuiet_nil ?_
              intro _ hw'
              obtain ⟨⟨wq, hq⟩, hw''⟩ := hw'
              subst hw''
              try dsimp only
              go_wp2
              go_ret
              exact ⟨by rw [HE.out]; rfl, bT HB6.out hq⟩
            case pos =>
            subst hf
            by_cases hr : f.r = xr
            case neg =>
              have HE : Hid (lnM m ⟨true, xt, xp, i, xr, xw⟩ = false) := by show _ = _; rw [hln, decide_eq_false hr]; simp
              clear hln
              go_wp2
              have hr2 : (f.r == xr) = false := by rw [beq_eq_false_iff_ne]; exact hr
              have hn2 : 0 ≤ (i : Int) := by omega
              refine wp_region_ext (by kernel_rfl) (by kernel_rfl) ?_
              repeat (go_big_quiet_step (fail))
              refine wpQuiet_nil ?_
              intro _ hw'
              obtain ⟨⟨wq, hq⟩, hw''⟩ := hw'
              subst hw''
              try dsimp only
              go_wp2
              go_ret
              exact ⟨by rw [HE.out]; rfl, bT HB6.out hq⟩
            case pos =>
              subst hr
              rw [decide_eq_true rfl, decide_eq_true rfl, Bool.true_and, Bool.true_and] at hln
              cases xw with
              | false =>
                have HE : Hid (lnM m ⟨true, xt, xp, i, f.r, false⟩ = true) := by show _ = _; rw [hln]; rfl
                clear hln
                go_wp2
                have hf2 : ((i : Int) == (i : Int)) = true := beq_self_eq_true _
                have hr2 : (f.r == f.r) = true := beq_self_eq_true _
                have hn2 : 0 ≤ (i : Int) := by omega
                refine wp_region_ext (by kernel_rfl) (by kernel_rfl) ?_
                repeat (go_big_quiet_step (fail))
                refine wpQuiet_nil ?_
                intro _ hw'
                obtain ⟨⟨wq, hq⟩, hw''⟩ := hw'
                subst hw''
                try dsimp only
                go_wp2
                go_ret
                exact ⟨by rw [HE.out]; rfl, bT HB6.out hq⟩
              | true =>
                have HE : Hid (lnM m ⟨true, xt, xp, i, f.r, true⟩ = false) := by show _ = _; rw [hln, decide_eq_false (show ¬ 128 ≤ xp by omega)]; rfl
                clear hln
                go_wp2
                have hf2 : ((i : Int) == (i : Int)) = true := beq_self_eq_true _
                have hr2 : (f.r == f.r) = true := beq_self_eq_true _
                have hn2 : 0 ≤ (i : Int) := by omega
                have ht4 : ((xt : Int) == (-1 : Int)) = false := by rw [beq_eq_false_iff_ne]; exact ht
                refine wp_region_ext (by kernel_rfl) (by kernel_rfl) ?_
                repeat (go_big_quiet_step (fail))
                refine wpQuiet_nil ?_
                intro _ hw'
                obtain ⟨⟨wq, hq⟩, hw''⟩ := hw'
                subst hw''
                try dsimp only
                go_wp2
                go_ret
                exact ⟨by rw [HE.out]; rfl, bT HB6.out hq⟩
set_option maxHeartbeats 1000000 in
theorem TagOf_any (vo : Value) (g : Tg) (s : Int) (w : World) (hT : SlR owE w vo g.os) :
  Calls Tryz.prog 30 #[.agg #[.int .i64 g.count, .int .i64 g.next, .int .i64 g.round, vo], .int .i64 s] w fun r w' => r = .returned (.tuple #[.int .i64 (tgT g s), .bool (tgO g s)]) ∧ Below w.heap.size w w' := by
 have HV := Hd hT
 obtain ⟨A, cc, rfl, hbc, hbm, hL⟩ := hT
 have hfm2 : g.os.length ≤ 9223372036854775807 := by unfold maxLen at hbm; omega
 have HL := Hd hL
 have hbx := Own.new_ w 46 #[.int .i64 g.count, .int .i64 g.next, .int .i64 g.round, .slice A g.os.length cc]
 have hbz : Below w.heap.size w (w.alloc (.cells #[.int .i64 g.count, .int .i64 g.next, .int .i64 g.round, .slice A g.os.length cc] 46)) := bA bR
 have hsz0 : (w.alloc (.cells #[.int .i64 g.count, .int .i64 g.next, .int .i64 g.round, .slice A g.os.length cc] 46)).heap.size = w.heap.size + 1 := by simp
 generalize hW : w.alloc (.cells #[.int .i64 g.count, .int .i64 g.next, .int .i64 g.round, .slice A g.os.length cc] 46) = W0 at hbx hbz hsz0
 have q0 := hbx.cell_ 0 (v := .int .i64 g.count) rfl
 have q1 := hbx.cell_ 1 (v := .int .i64 g.next) rfl
 have q2 := hbx.cell_ 2 (v := .int .i64 g.round) rfl
 have q3 := hbx.cell_ 3 (v := .slice A g.os.length cc) rfl
 have HBX := Hd hbx
 clear hL hbx
 go_enter Tryz.func30, Tryz.ntmps30
 go_wp2_with fail
 refine (TagsValid_any _ g _ (HV.out.now hbz)).mono ?_
 rintro e w1 ⟨rfl, hb1⟩
 have HBX1 := Hd (HBX.out.below hb1)
 have HBZ1 := Hd (bT hbz hb1)
 clear hb1 q0 q1 q2 q3
 have q0 := HBX1.out.cell_ 0 (v := .int .i64 g.count) rfl
 have q1 := HBX1.out.cell_ 1 (v := .int .i64 g.next) rfl
 have q2 := HBX1.out.cell_ 2 (v := .int .i64 g.round) rfl
 have q3 := HBX1.out.cell_ 3 (v := .slice A g.os.length cc) rfl
 cases h1 : tgv g with
 | false =>
  obtain ⟨e1, e2⟩ := tgO_no (s := s) h1
  have E1 := Hd e1
  have E2 := Hd e2
  clear e1 e2
  go_wp2
  go_ret2
  exact ⟨by rw [E1.out, E2.out]; rfl, HBZ1.out⟩
 | true =>
  go_wp2_with fail
  refine (own_any _ g s _ (HV.out.now HBZ1.out)).mono ?_
  rintro e w2 ⟨rfl, hb2⟩
  have HBX2 := Hd (HBX1.out.below hb2)
  have HBZ2 := Hd (bT HBZ1.out hb2)
  clear hb2 q0 q1 q2 q3
  have q0 := HBX2.out.cell_ 0 (v := .int .i64 g.count) rfl
  have q1 := HBX2.out.cell_ 1 (v := .int .i64 g.next) rfl
  have q2 := HBX2.out.cell_ 2 (v := .int .i64 g.round) rfl
  have q3 := HBX2.out.cell_ 3 (v := .slice A g.os.length cc) rfl
  by_cases h2 : 0 ≤ ownI g.os s
  case neg =>
   obtain ⟨e1, e2⟩ := tgO_neg h2
   have E1 := Hd e1
   have E2 := Hd e2
   have h2b : ownI g.os s < 0 := by omega
   clear e1 e2
   go_wp2
   go_ret2
   exact ⟨by rw [E1.out, E2.out]; rfl, HBZ2.out⟩
  case pos =>
   obtain ⟨k, o, hk, eo, _⟩ := ownI_lt h2
   obtain ⟨e1, e2⟩ := tgO_yes h1 hk eo
   have E1 := Hd e1
   have E2 := Hd e2
   have HN := Hd hk
   have EO := Hd eo
   have hkl := (List.getElem?_eq_some_iff.1 eo).1
   have HOW : Hid (∀ W, SlR owE W (.slice A g.os.length cc) g.os → Calls Tryz.prog 90 #[.agg #[.int .i64 g.count, .int .i64 g.next, .int .i64 g.round, .slice A g.os.length cc], .int .i64 s] W fun r w' => r = .returned (.int .i64 (k : Int)) ∧ Below W.heap.size W w') := fun W h => by rw [← hk]; exact own_any _ g s W h
   rw [hk]
   have h2b : ¬ (k : Int) < 0 := by omega
   clear e1 e2 hk eo h2 q0 q1 q2 q3
   obtain ⟨b, ob, rfl, hbb, d0, d1⟩ := (HL.out.now (Nat.le_refl _) HBZ2.out).ow EO.out
   have q0 := xcell (HBX2.out.cell_ 0 (v := .int .i64 g.count) rfl) HBX2.out.lt
   have q1 := xcell (HBX2.out.cell_ 1 (v := .int .i64 g.next) rfl) HBX2.out.lt
   have q2 := xcell (HBX2.out.cell_ 2 (v := .int .i64 g.round) rfl) HBX2.out.lt
   have q3 := xcell (HBX2.out.cell_ 3 (v := .slice (some ⟨b, ob, none⟩) g.os.length cc) rfl) HBX2.out.lt
   have y1 := xcell d1 hbb
   clear d0 d1
   go_wp2
   refine wp_region_ext (by kernel_rfl) (by kernel_rfl) ?_
   repeat (go_big_quiet_step ((go_at_call 90; exact ext_call (HOW.out _ (HV.out.now (bT HBZ2.out (Ext.ok _)))))))
   refine wpQuiet_nil ?_
   intro _ hw'
   obtain ⟨⟨wq, hq⟩, hw''⟩ := hw'
   subst hw''
   try dsimp only
   go_wp2
   go_ret2
   exact ⟨by rw [E1.out, E2.out]; rfl, bT HBZ2.out hq⟩
set_option maxHeartbeats 1000000 in
theorem tagFor_any (vb vf vl vo : Value) (m : Ma) (s p : Int) (w : World) (hM : MaR w vb vf vl vo m) :
  Calls Tryz.prog 111 #[.agg #[vb, vf, vl, .int .i64 m.c.hand, .int .i64 m.g.count, .int .i64 m.g.next, .int .i64 m.g.round, vo, .int .i64 m.sp], .int .i64 s, .int .i64 p] w fun r w' => r = .returned (.tuple #[.int .i64 (tagT m s p), .bool (tagO m s p)]) ∧ Below w.heap.size w w' := by
 have HM := Hd hM
 clear hM
 obtain ⟨W0, hW, hbx, hbz, _⟩ := box1 w #[vb, vf, vl, .int .i64 m.c.hand, .int .i64 m.g.count, .int .i64 m.g.next, .int .i64 m.g.round, vo, .int .i64 m.sp] 48
 have HX0 := Hd hbx
 have HB0 := Hd hbz
 clear hbx hbz
 obtain ⟨m00, m10, m20, m30, m40, m50, m60, m70, m80⟩ := cells9 HX0.out
 by_cases h : 128 ≤ p
 ·have E1 : Hid (tagT m s p = -1) := if_pos h
  have E2 : Hid (tagO m s p = true) := if_pos h
  go_enter Tryz.func111, Tryz.ntmps111
  go_wp2
  go_ret2
  exact ⟨by rw [E1.out, E2.out]; rfl, HB0.out⟩
 ·have E1 : Hid (tagT m s p = tgT m.g s) := if_neg h
  have E2 : Hid (tagO m s p = tgO m.g s) := if_neg h
  go_enter Tryz.func111, Tryz.ntmps111
  go_wp2_with fail
  refine (TagOf_any vo m.g s _ (HM.out.o.now HB0.out)).mono ?_
  rintro e w1 ⟨rfl, hb1⟩
  go_wp2
  go_ret2
  exact ⟨by rw [E1.out, E2.out]; rfl, bT HB0.out hb1⟩
set_option maxHeartbeats 1000000 in
theorem l6Tag_any (vb vf vl vo : Value) (m : Ma) (s p : Int) (w : World) (hM : MaR w vb vf vl vo m) (hg : tgv m.g = true) :
  Calls Tryz.prog 178 #[.agg #[vb, vf, vl, .int .i64 m.c.hand, .int .i64 m.g.count, .int .i64 m.g.next, .int .i64 m.g.round, vo, .int .i64 m.sp], .int .i64 s, .int .i64 p] w fun r w' => r = .returned (.tuple #[.int .i64 (tagT m s p), .bool (tagO m s p)]) ∧ Below w.heap.size w w' := by
 have HM := Hd hM
 clear hM
 obtain ⟨W0, hW, hbx, hbz, _⟩ := box1 w #[vb, vf, vl, .int .i64 m.c.hand, .int .i64 m.g.count, .int .i64 m.g.next, .int .i64 m.g.round, vo, .int .i64 m.sp] 48
 have HX0 := Hd hbx
 have HB0 := Hd hbz
 clear hbx hbz
 obtain ⟨m00, m10, m20, m30, m40, m50, m60, m70, m80⟩ := cells9 HX0.out
 by_cases h : 128 ≤ p
 ·have E1 : Hid (tagT m s p = -1) := if_pos h
  have E2 : Hid (tagO m s p = true) := if_pos h
  go_enter Tryz.func178, Tryz.ntmps178
  go_wp2
  go_ret2
  exact ⟨by rw [E1.out, E2.out]; rfl, HB0.out⟩
 ·have E1 : Hid (tagT m s p = tgT m.g s) := if_neg h
  have E2 : Hid (tagO m s p = tgO m.g s) := if_neg h
  by_cases h2 : 0 ≤ ownI m.g.os s
  case neg =>
   obtain ⟨e1, e2⟩ := tgO_neg h2
   have F1 := Hd e1
   have F2 := Hd e2
   have h2b : ownI m.g.os s < 0 := by omega
   clear e1 e2
   go_enter Tryz.func178, Tryz.ntmps178
   go_wp2_with fail
   refine (l5Find_any _ m.g s _ (HM.out.o.now HB0.out)).mono ?_
   rintro e w1 ⟨rfl, hb1⟩
   go_wp2
   go_ret2
   exact ⟨by rw [E1.out, E2.out, F1.out, F2.out]; rfl, bT HB0.out hb1⟩
  case pos =>
   obtain ⟨k, o, hk, eo, _⟩ := ownI_lt h2
   obtain ⟨e1, e2⟩ := tgO_yes hg hk eo
   have F1 := Hd e1
   have F2 := Hd e2
   have HN := Hd hk
   have EO := Hd eo
   have hkl := (List.getElem?_eq_some_iff.1 eo).1
   have h2b : ¬ (k : Int) < 0 := by omega
   clear e1 e2 hk eo h2
   go_enter Tryz.func178, Tryz.ntmps178
   go_wp2_with fail
   refine (l5Find_any _ m.g s _ (HM.out.o.now HB0.out)).mono ?_
   rintro e w1 ⟨rfl, hb1⟩
   rw [HN.out]
   obtain ⟨A, cc, rfl, hbc, hbm, hL⟩ := HM.out.o
   obtain ⟨b, ob, rfl, hbb, d0, d1⟩ := (hL.now (Nat.le_refl _) (bT HB0.out hb1)).ow EO.out
   have HB1 := Hd (bT HB0.out hb1)
   have m7 := (HX0.out.below hb1).cell_ 7 (v := .slice (some ⟨b, ob, none⟩) m.g.os.length cc) rfl
   clear m00 m10 m20 m30 m40 m50 m60 m70 m80 hb1
   go_wp2
   go_ret2
   exact ⟨by rw [E1.out, E2.out, F1.out, F2.out]; rfl, HB1.out⟩
theorem l5CopyO_any (vo : Value) (g : Tg) (w : World) (hT : SlR owE w vo g.os) (hl : g.os.length ≤ 1048576) :
    Calls Tryz.prog 159 #[.agg #[.int .i64 g.count, .int .i64 g.next, .int .i64 g.round, vo]] w (Post2 fun v w' => ∃ v1, v = .agg #[.int .i64 g.count, .int .i64 g.next, .int .i64 g.round, v1] ∧ w'.ownsRow w.heap.size 126 2 v1 g.os.length (owE.cells g.os) ∧ Below w.heap.size w w') := by
  obtain ⟨A, cc, rfl, hbc, hbm, hL⟩ := hT
  obtain ⟨i0, hi0, hz0, hz1, hz2⟩ := info_parts ow_info
  have hbx := (Own.new_ w 46 #[.int .i64 g.count, .int .i64 g.next, .int .i64 g.round, .slice A g.os.length cc]).alloc (o := .cells #[.int .i64 0, .int .i64 0, .int .i64 0, .slice none 0 0] 46)
  have hbo := ownAt (W := w.alloc (.cells #[.int .i64 g.count, .int .i64 g.next, .int .i64 g.round, .slice A g.os.length cc] 46)) (g := w.heap.size + 1) (t := 46) (cs := #[.int .i64 0, .int .i64 0, .int .i64 0, .slice none 0 0]) (by simp)
  have hb0 : Below w.heap.size w ((w.alloc (.cells #[.int .i64 g.count, .int .i64 g.next, .int .i64 g.round, .slice A g.os.length cc] 46)).alloc (.cells #[.int .i64 0, .int .i64 0, .int .i64 0, .slice none 0 0] 46)) := bA (bA bR)
  have hs0 : ((w.alloc (.cells #[.int .i64 g.count, .int .i64 g.next, .int .i64 g.round, .slice A g.os.length cc] 46)).alloc (.cells #[.int .i64 0, .int .i64 0, .int .i64 0, .slice none 0 0] 46)).heap.size = w.heap.size + 2 := by simp
  generalize hW : (w.alloc (.cells #[.int .i64 g.count, .int .i64 g.next, .int .i64 g.round, .slice A g.os.length cc] 46)).alloc (.cells #[.int .i64 0, .int .i64 0, .int .i64 0, .slice none 0 0] 46) = W0 at hbx hbo hb0 hs0
  have q0 := hbx.cell_ 0 (v := .int .i64 g.count) rfl
  have q1 := hbx.cell_ 1 (v := .int .i64 g.next) rfl
  have q2 := hbx.cell_ 2 (v := .int .i64 g.round) rfl
  have q3 := hbx.cell_ 3 (v := .slice A g.os.length cc) rfl
  have HX0 := Hd hbx
  have HO0 := Hd hbo
  have HB0 := Hd hb0
  have HL := Hd hL
  clear hbx hbo hb0 hL
  go_enter Tryz.func159, Tryz.ntmps159
  go_wp2
  go_region_held_law (fun w' => w'.cell? ⟨w.heap.size, 0, none⟩ = some (.int .i64 g.count) ∧ w'.cell? ⟨w.heap.size, 1, none⟩ = some (.int .i64 g.next) ∧ w'.cell? ⟨w.heap.size, 2, none⟩ = some (.int .i64 g.round) ∧ w'.cell? ⟨w.heap.size, 3, none⟩ = some (.slice A g.os.length cc)) (go_keep) (first
    | (refine step_copy owE 44 44 126 i0 _ _ Tryz.underlying44 hi0 hz0 hz1 hz2 rfl (by omega) (w.heap.size + 2) rfl (.tmp 9) (.tmp 11) rfl rfl _ A cc g.os rfl rfl (ownAt (W := W0) (by simp [hs0])) (by simp <;> omega) w.heap.size (HL.out.below (bA (bD HB0.out))) hl (by simp [hs0] <;> omega) ?_
       intro v1 w1 hown1 hg1
       have hm1 := slm_own rfl hown1
       obtain ⟨A1, c1, rfl, _⟩ := slm_own rfl hown1
       have HB1 : Hid (Below w.heap.size w w1) := bG (bA (bD HB0.out)) hg1 (fun k hk => by injection hk with hk; omega)
       have hx1 := own_other (HX0.out.drew.alloc (o := .cells #[] 126)) hg1 (by simp <;> omega)
       have ho1 := own_other (HO0.out.drew.alloc (o := .cells #[] 126)) hg1 (by simp <;> omega)
       have d0 := hx1.cell_ 0 (v := .int .i64 g.count) rfl
       have d1 := hx1.cell_ 1 (v := .int .i64 g.next) rfl
       have d2 := hx1.cell_ 2 (v := .int .i64 g.round) rfl
       have d3 := hx1.cell_ 3 (v := .slice A g.os.length cc) rfl
       have p0 := ho1.free 0
       have p1 := ho1.free 1
       have p2 := ho1.free 2
       have p3 := ho1.free 3
       have e0 := ho1.cell_ 0 (v := .int .i64 0) rfl
       have e1 := ho1.cell_ 1 (v := .int .i64 0) rfl
       have e2 := ho1.cell_ 2 (v := .int .i64 0) rfl
       have e3 := ho1.cell_ 3 (v := .slice none 0 0) rfl
       have HO1 := Hd ho1
       have HM1 := Hd hown1
       clear hown1 hg1 hx1 ho1 hm1))
  all_goals
    go_wp2
    have o3 := (((HO1.out.set_ 0 (.int .i64 g.count)).set_ 1 (.int .i64 g.next)).set_ 2 (.int .i64 g.round)).set_ 3 (.slice A1 g.os.length c1)
    have t0 := o3.cell_ 0 (v := .int .i64 g.count) rfl
    have t1 := o3.cell_ 1 (v := .int .i64 g.next) rfl
    have t2 := o3.cell_ 2 (v := .int .i64 g.round) rfl
    have t3 := o3.cell_ 3 (v := .slice A1 g.os.length c1) rfl
    have hM := ownsRow_setCell_below (ownsRow_setCell_below (ownsRow_setCell_below (ownsRow_setCell_below HM1.out (a := ⟨w.heap.size + 1, 0, none⟩) (by show w.heap.size + 1 < w.heap.size + 2; omega) (.int .i64 g.count)) (a := ⟨w.heap.size + 1, 1, none⟩) (by show w.heap.size + 1 < w.heap.size + 2; omega) (.int .i64 g.next)) (a := ⟨w.heap.size + 1, 2, none⟩) (by show w.heap.size + 1 < w.heap.size + 2; omega) (.int .i64 g.round)) (a := ⟨w.heap.size + 1, 3, none⟩) (by show w.heap.size + 1 < w.heap.size + 2; omega) (.slice A1 g.os.length c1)
    refine bodyPost_ret (v := .agg #[.int .i64 g.count, .int .i64 g.next, .int .i64 g.round, .slice A1 g.os.length c1]) (by simp [results, Tryz.results159, go_sem, t0, t1, t2, t3]) rfl ⟨_, rfl, _, rfl, own_mono hM (by omega), bS (bS (bS (bS HB1.out (by simp)) (by simp)) (by simp)) (by simp)⟩
def fpV (t : Tab) (s p : Int) : Int := if fOK t s p = true then fndI t.fs s p else 0
set_option maxHeartbeats 2000000 in
theorem sFindPage_any (vb vf : Value) (t : Tab) (s p : Int) (w : World) (hT : TaR w vb vf t) :
  Calls Tryz.prog 176 #[.agg #[vb, vf], .agg #[.int .i64 s, .int .i64 p]] w (Post2 fun v w' => ∃ stp : Int, v = .tuple #[.int .i64 (fpV t s p), .int .i64 stp, .bool (fOK t s p)] ∧ Below w.heap.size w w') := by
 have hx := (Own.new_ w 40 #[vb, vf]).alloc (o := .cells #[.int .i64 s, .int .i64 p] 61)
 have hk := ownAt (W := w.alloc (.cells #[vb, vf] 40)) (g := w.heap.size + 1) (t := 61) (cs := #[.int .i64 s, .int .i64 p]) (by simp)
 have hb0 : Below w.heap.size w ((w.alloc (.cells #[vb, vf] 40)).alloc (.cells #[.int .i64 s, .int .i64 p] 61)) := bA (bA bR)
 generalize hW : (w.alloc (.cells #[vb, vf] 40)).alloc (.cells #[.int .i64 s, .int .i64 p] 61) = W0 at hx hk hb0
 have HTR := Hd hT
 have HX0 := Hd hx
 have HK0 := Hd hk
 have HB0 := Hd hb0
 clear hT hx hk hb0
 have t00 := HX0.out.cell_ 0 (v := vb) rfl
 have t10 := HX0.out.cell_ 1 (v := vf) rfl
 go_enter Tryz.func176, Tryz.ntmps176
 go_wp2_with fail
 refine (sTableValid_any vb vf t _ (HTR.out.now HB0.out)).mono ?_
 rintro e w1 ⟨rfl, hb1⟩
 have HX1 := Hd (HX0.out.below hb1)
 have HK1 := Hd (HK0.out.below hb1)
 have HB1 := Hd (bT HB0.out hb1)
 clear hb1 t00 t10
 cases h1 : tv t with
 | false =>
  have HA : Hid (fOK t s p = false) := by show _ = _; unfold fOK; rw [h1]; rfl
  have HV : Hid (fpV t s p = 0) := by show _ = _; unfold fpV; rw [HA.out]; rfl
  go_wp2
  refine bodyPost_ret (v := .tuple #[.int .i64 0, .int .i64 0, .bool false]) (by simp [results, Tryz.results176, go_sem]) rfl ⟨_, rfl, 0, by rw [HA.out, HV.out], HB1.out⟩
 | true =>
  have k0 := HK1.out.cell_ 0 (v := .int .i64 s) rfl
  have k1 := HK1.out.cell_ 1 (v := .int .i64 p) rfl
  go_wp2_with fail
  refine (sKeyValid_any _ _ _).mono ?_
  rintro e w2 ⟨rfl, hb2⟩
  have HX2 := Hd (HX1.out.below hb2)
  have HK2 := Hd (HK1.out.below hb2)
  have HB2 := Hd (bT HB1.out hb2)
  clear hb2 k0 k1
  cases h2 : kval (s, p) with
  | false =>
   have HA : Hid (fOK t s p = false) := by show _ = _; unfold fOK; rw [h1, h2]; rfl
   have HV : Hid (fpV t s p = 0) := by show _ = _; unfold fpV; rw [HA.out]; rfl
   go_wp2
   refine bodyPost_ret (v := .tuple #[.int .i64 0, .int .i64 0, .bool false]) (by simp [results, Tryz.results176, go_sem]) rfl ⟨_, rfl, 0, by rw [HA.out, HV.out], HB2.out⟩
  | true =>
   have t0 := HX2.out.cell_ 0 (v := vb) rfl
   have t1 := HX2.out.cell_ 1 (v := vf) rfl
   have k0 := HK2.out.cell_ 0 (v := .int .i64 s) rfl
   have k1 := HK2.out.cell_ 1 (v := .int .i64 p) rfl
   go_wp2_with fail
   refine (l3Find_any vb _ t s p _ (HTR.out.now HB2.out) h1 h2).mono ?_
   rintro e w3 ⟨stp, rfl, hb3⟩
   have HB3 := Hd (bT HB2.out hb3)
   clear hb3 t0 t1 k0 k1
   by_cases h3 : 0 ≤ fndI t.fs s p
   ·have HA : Hid (fOK t s p = true) := by show _ = _; unfold fOK; rw [h1, h2, decide_eq_true h3]; rfl
    have HV : Hid (fpV t s p = fndI t.fs s p) := by show _ = _; unfold fpV; rw [HA.out]; rfl
    have h3b : ¬ fndI t.fs s p < 0 := by omega
    go_wp2
    refine bodyPost_ret (v := .tuple #[.int .i64 (fndI t.fs s p), .int .i64 stp, .bool true]) (by simp [results, Tryz.results176, go_sem]) rfl ⟨_, rfl, stp, by rw [HA.out, HV.out], HB3.out⟩
   ·have HA : Hid (fOK t s p = false) := by show _ = _; unfold fOK; rw [h1, h2, decide_eq_false h3]; rfl
    have HV : Hid (fpV t s p = 0) := by show _ = _; unfold fpV; rw [HA.out]; rfl
    have h3b : fndI t.fs s p < 0 := by omega
    go_wp2
    refine bodyPost_ret (v := .tuple #[.int .i64 0, .int .i64 stp, .bool false]) (by simp [results, Tryz.results176, go_sem]) rfl ⟨_, rfl, stp, by rw [HA.out, HV.out], HB3.out⟩
def kb (a b : Key) : Bool := decide (a.1 < b.1) || (decide (a.1 = b.1) && decide (a.2 < b.2))
theorem kb_iff {a b : Key} : kb a b = true ↔ a.1 < b.1 ∨ (a.1 = b.1 ∧ a.2 < b.2) := by unfold kb; simp
theorem kb_no {a b : Key} : kb a b = false ↔ ¬ (a.1 < b.1 ∨ (a.1 = b.1 ∧ a.2 < b.2)) := by
 rw [← kb_iff]; simp
theorem kb_anti {a b : Key} (h1 : kb a b = false) (h2 : kb b a = false) : a = b := by
 rw [kb_no] at h1 h2
 have e1 : a.1 = b.1 := by omega
 have e2 : a.2 = b.2 := by omega
 exact Prod.ext e1 e2
theorem kb_asym {a b : Key} (h : kb a b = true) : kb b a = false := by
 rw [kb_iff] at h; rw [kb_no]; omega
theorem kb_ntrans {a b c : Key} (h1 : kb b a = false) (h2 : kb c b = false) : kb c a = false := by
 rw [kb_no] at h1 h2 ⊢; omega
def KSo (l : List Key) : Prop := l.Pairwise (fun a b => kb b a = false)
theorem kso_unique {l m : List Key} (hl : KSo l) (hm : KSo m) (hp : l.Perm m) : l = m := by
 induction l generalizing m with
 | nil => exact (List.nil_perm.1 hp).symm
 | cons x l ih =>
  cases m with
  | nil => exact absurd hp.length_eq (by simp)
  | cons y m =>
   unfold KSo at hl hm
   rw [List.pairwise_cons] at hl hm
   have hxy : x = y := by
    rcases List.mem_cons.1 (hp.mem_iff.1 (List.mem_cons_self (a := x) (l := l))) with h | h
    ·exact h
    ·rcases List.mem_cons.1 (hp.mem_iff.2 (List.mem_cons_self (a := y) (l := m))) with h2 | h2
     ·exact h2.symm
     ·exact kb_anti (hm.1 x h) (hl.1 y h2)
   subst hxy
   rw [ih hl.2 hm.2 (List.Perm.cons_inv hp)]
def keysL (fs : List Fr) : List Key := fs.filterMap (fun y => if y.used = true then some (y.s, y.p) else none)
theorem keysL_take {fs : List Fr} {k : Nat} {y : Fr} (h : fs[k]? = some y) : keysL (fs.take (k + 1)) = keysL (fs.take k) ++ (if y.used = true then [(y.s, y.p)] else []) := by
 unfold keysL
 rw [List.take_add_one, h, List.filterMap_append]
 congr 1
 simp only [Option.toList]
 cases hu : y.used <;> simp [hu]
def kins (l : List Key) (x : Key) : List Key := match l with
 | [] => [x]
 | y :: l => if kb x y = true then x :: y :: l else y :: kins l x
theorem kins_perm (l : List Key) (x : Key) : (kins l x).Perm (x :: l) := by
 induction l with
 | nil => exact List.Perm.refl _
 | cons y l ih =>
  unfold kins
  split
  ·exact List.Perm.refl _
  ·exact (List.Perm.cons y ih).trans (List.Perm.swap x y l)
theorem kins_so {l : List Key} {x : Key} (h : KSo l) : KSo (kins l x) := by
 induction l with
 | nil => simp [kins, KSo]
 | cons y l ih =>
  have h' := h
  unfold KSo at h
  rw [List.pairwise_cons] at h
  unfold kins
  split
  ·rename_i hx
   refine List.pairwise_cons.2 ⟨fun z hz => ?_, h'⟩
   rcases List.mem_cons.1 hz with e | e
   ·subst e; exact kb_asym hx
   ·exact kb_ntrans (kb_asym hx) (h.1 z e)
  ·rename_i hx
   refine List.pairwise_cons.2 ⟨fun z hz => ?_, ih h.2⟩
   rcases List.mem_cons.1 ((kins_perm l x).mem_iff.1 hz) with e | e
   ·subst e; simpa using hx
   ·exact h.1 z e
def ksrt (l : List Key) : List Key := l.foldl kins []
theorem ksrt_gen : ∀ (l a : List Key), KSo a → KSo (l.foldl kins a) ∧ (l.foldl kins a).Perm (a ++ l)
  | [], a, h => ⟨h, by simp⟩
  | x :: l, a, h => by
    obtain ⟨h1, h2⟩ := ksrt_gen l (kins a x) (kins_so h)
    refine ⟨h1, h2.trans (((kins_perm a x).append_right l).trans ?_)⟩
    exact List.perm_middle.symm
theorem ksrt_so (l : List Key) : KSo (ksrt l) := (ksrt_gen l [] List.Pairwise.nil).1
theorem ksrt_perm (l : List Key) : (ksrt l).Perm l := by unfold ksrt; simpa using (ksrt_gen l [] List.Pairwise.nil).2
theorem ksrt_of {l m : List Key} (h : KSo l) (hp : l.Perm m) : l = ksrt m := kso_unique h (ksrt_so m) (hp.trans (ksrt_perm m).symm)
theorem ksrt_length (l : List Key) : (ksrt l).length = l.length := (ksrt_perm l).length_eq
def kys (t : Tab) : List Key := if tv t = true then ksrt (keysL t.fs) else []
theorem kys_no {t : Tab} (h : tv t = false) : kys t = [] := by unfold kys; rw [if_neg (by rw [h]; decide)]
end Go.Proofs.YtibpnlojlfcpmaaGreatDoor
