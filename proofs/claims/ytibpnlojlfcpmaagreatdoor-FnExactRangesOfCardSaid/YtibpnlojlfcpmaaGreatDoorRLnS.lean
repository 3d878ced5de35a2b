/- A part of the proofs of this seat: LnS. -/
import Derived.Test.YtibpnlojlfcpmaaGreatDoorRSpS
set_option linter.unusedVariables false
set_option linter.unusedSimpArgs false
set_option maxRecDepth 1000000
namespace Go.Proofs.YtibpnlojlfcpmaaGreatDoor
open Go.RowKit
set_option maxHeartbeats 4000000 in
theorem l6Line_any (vb vf vl vo : Value) (m : Ma) (xt xp xf xr : Int) (xw : Bool) (w : World) (hM : MaR w vb vf vl vo m) (htv : tv m.t = true) (hgv : tgv m.g = true) (hp256 : inR xp 256 = true) :
    Calls Tryz.prog 132 #[.agg #[vb, vf, vl, .int .i64 m.c.hand, .int .i64 m.g.count, .int .i64 m.g.next, .int .i64 m.g.round, vo, .int .i64 m.sp], .agg #[.bool true, .int .i64 xt, .int .i64 xp, .int .i64 xf, .int .i64 xr, .bool xw]] w fun r w' => r = .returned (.bool (lnM m ⟨true, xt, xp, xf, xr, xw⟩)) ∧ Below w.heap.size w w' := by
  have HM := Hd hM
  obtain ⟨Af, cf, rfl, hfc, hfm, hF⟩ := hM.t.f
  have HFS := Hd hF
  clear hM hF
  have hbx := (Own.new_ w 48 #[vb, .slice Af m.t.fs.length cf, vl, .int .i64 m.c.hand, .int .i64 m.g.count, .int .i64 m.g.next, .int .i64 m.g.round, vo, .int .i64 m.sp]).alloc (o := .cells #[.bool true, .int .i64 xt, .int .i64 xp, .int .i64 xf, .int .i64 xr, .bool xw] 129)
  have hbl := Own.new_ (w.alloc (.cells #[vb, .slice Af m.t.fs.length cf, vl, .int .i64 m.c.hand, .int .i64 m.g.count, .int .i64 m.g.next, .int .i64 m.g.round, vo, .int .i64 m.sp] 48)) 129 #[.bool true, .int .i64 xt, .int .i64 xp, .int .i64 xf, .int .i64 xr, .bool xw]
  have hb0 : Below w.heap.size w ((w.alloc (.cells #[vb, .slice Af m.t.fs.length cf, vl, .int .i64 m.c.hand, .int .i64 m.g.count, .int .i64 m.g.next, .int .i64 m.g.round, vo, .int .i64 m.sp] 48)).alloc (.cells #[.bool true, .int .i64 xt, .int .i64 xp, .int .i64 xf, .int .i64 xr, .bool xw] 129)) := bA (bA bR)
  rw [show (w.alloc (.cells #[vb, .slice Af m.t.fs.length cf, vl, .int .i64 m.c.hand, .int .i64 m.g.count, .int .i64 m.g.next, .int .i64 m.g.round, vo, .int .i64 m.sp] 48)).heap.size = w.heap.size + 1 by simp] at hbl
  generalize hW : (w.alloc (.cells #[vb, .slice Af m.t.fs.length cf, vl, .int .i64 m.c.hand, .int .i64 m.g.count, .int .i64 m.g.next, .int .i64 m.g.round, vo, .int .i64 m.sp] 48)).alloc (.cells #[.bool true, .int .i64 xt, .int .i64 xp, .int .i64 xf, .int .i64 xr, .bool xw] 129) = W0 at hbx hbl hb0
  have HX0 := Hd hbx
  have HL0 := Hd hbl
  have HB0 := Hd hb0
  clear hbx hbl hb0
  have m0 := HX0.out.cell_ 0 (v := vb) rfl
  have m1 := HX0.out.cell_ 1 (v := .slice Af m.t.fs.length cf) rfl
  have m4 := HX0.out.cell_ 4 (v := .int .i64 m.g.count) rfl
  have m5 := HX0.out.cell_ 5 (v := .int .i64 m.g.next) rfl
  have m6 := HX0.out.cell_ 6 (v := .int .i64 m.g.round) rfl
  have m7 := HX0.out.cell_ 7 (v := vo) rfl
  have x1 := HL0.out.cell_ 1 (v := .int .i64 xt) rfl
  have x2 := HL0.out.cell_ 2 (v := .int .i64 xp) rfl
  by_cases hp : 128 ≤ xp
  case pos =>
    by_cases ht : xt = -1
    case neg =>
      have HE : Hid (lnM m ⟨true, xt, xp, xf, xr, xw⟩ = false) := lnM_sh rfl (fun h => ht (h.1 hp))
      have ht3 : (xt == (-1 : Int)) = false := by rw [beq_eq_false_iff_ne]; exact ht
      go_enter Tryz.func132, Tryz.ntmps132
      go_wp2
      go_ret
      exact ⟨by rw [HE.out]; rfl, HB0.out⟩
    case pos =>
      subst ht
      have hln := lnM_at2 (m := m) (f := xf) (r := xr) (w := xw) ⟨fun _ => rfl, fun _ => hp⟩ (lnSp_sh hp)
      have hkv := lnSp_kval (m := m) (x := ⟨true, -1, xp, xf, xr, xw⟩) hgv hp256 (lnSp_sh hp)
      go_enter Tryz.func132, Tryz.ntmps132
      go_wp2
      have HK := Hd (sKeyFor_any 0 xp)
      have HFN := Hd (fun W (h : TaR W vb (.slice Af m.t.fs.length cf) m.t) => l3Find_any vb (.slice Af m.t.fs.length cf) m.t (keyI 0 xp) xp W h htv hkv)
      have hidx := @fndI_lt m.t.fs (keyI 0 xp) xp
      generalize keyI 0 xp = ks at *
      generalize hN : fndI m.t.fs ks xp = N at *
      go_region_held_law (fun w' => w'.cell? ⟨w.heap.size, 0, none⟩ = some vb ∧ w'.cell? ⟨w.heap.size, 1, none⟩ = some (.slice Af m.t.fs.length cf) ∧ w'.cell? ⟨w.heap.size + 1, 2, none⟩ = some (.int .i64 xp)) (go_keep) (first
        | (go_at_call 96
           refine (HK.out _).mono ?_
           rintro _ w5 ⟨rfl, hb5⟩
           have HB5 := Hd (bT (bD HB0.out) hb5)
           have HX5 := Hd (HX0.out.drew.below hb5)
           have HL5 := Hd (HL0.out.drew.below hb5)
           have d0 := HX5.out.cell_ 0 (v := vb) rfl
           have d1 := HX5.out.cell_ 1 (v := .slice Af m.t.fs.length cf) rfl
           have d2 := HL5.out.cell_ 2 (v := .int .i64 xp) rfl
           clear hb5)
        | (go_at_call 57
           refine (HFN.out _ (HM.out.t.now HB5.out)).mono ?_
           rintro _ w6 ⟨stp, rfl, hb6⟩
           have HB6 := Hd (bT HB5.out hb6)
           have HX6 := Hd (HX5.out.below hb6)
           have HL6 := Hd (HL5.out.below hb6)
           have e0 := HX6.out.cell_ 0 (v := vb) rfl
           have e1 := HX6.out.cell_ 1 (v := .slice Af m.t.fs.length cf) rfl
           have e2 := HL6.out.cell_ 2 (v := .int .i64 xp) rfl
           clear hb6 d0 d1 d2))
      all_goals
        clear m0 m1 m4 m5 m6 m7 x1 x2 e0 e1 e2
        have l1 := xcell (HL6.out.cell_ 1 (v := .int .i64 (-1)) rfl) HL6.out.lt
        have l3 := xcell (HL6.out.cell_ 3 (v := .int .i64 xf) rfl) HL6.out.lt
        have l4 := xcell (HL6.out.cell_ 4 (v := .int .i64 xr) rfl) HL6.out.lt
        have l5 := xcell (HL6.out.cell_ 5 (v := .bool xw) rfl) HL6.out.lt
        have l6 := xcell (HX6.out.cell_ 1 (v := .slice Af m.t.fs.length cf) rfl) HX6.out.lt
        by_cases hn : 0 ≤ N
        case neg =>
          have HE : Hid (lnM m ⟨true, -1, xp, xf, xr, xw⟩ = false) := by show _ = _; rw [hln, decide_eq_false hn]; rfl
          clear hidx hln
          go_wp2
          have hn2 : ¬ 0 ≤ N := by omega
          refine wp_region_ext (by kernel_rfl) (by kernel_rfl) ?_
          repeat (go_big_quiet_step (fail))
          refine wpQuiet_nil ?_
          intro _ hw'
          obtain ⟨⟨wq, hq⟩, hw''⟩ := hw'
          subst hw''
          try dsimp only
          go_wp2
          go_ret
          exact ⟨by rw [HE.out]; rfl, bT HB6.out hq⟩
        case pos =>
          obtain ⟨i, f, rfl, ef, _, _⟩ := hidx hn
          obtain ⟨b', o', eA, hbb', f0, f1, f2, f3, f4⟩ := (HFS.out.below HB6.out).fr ef
          subst eA
          have hfr := xcell f3 (by have := HB6.out.size; show b' < _; omega)
          rw [decide_eq_true hn, Int.toNat_natCast, List.getD_eq_getElem?_getD, ef, Option.getD_some, Bool.true_and] at hln
          have hil := (List.getElem?_eq_some_iff.1 ef).1
          clear f0 f1 f2 f3 f4 ef hidx
          by_cases hf : (i : Int) = xf
          case neg =>
            have HE : Hid (lnM m ⟨true, -1, xp, xf, xr, xw⟩ = false) := by show _ = _; rw [hln, decide_eq_false hf]; rfl
            clear hln
            go_wp2
            have hf2 : ((i : Int) == xf) = false := by rw [beq_eq_false_iff_ne]; exact hf
            have hn2 : 0 ≤ (i : Int) := by omega
            refine wp_region_ext (by kernel_rfl) (by kernel_rfl) ?_
            repeat (go_big_quiet_step (fail))
            refine wpQuiet_nil ?_
            intro _ hw'
            obtain ⟨⟨wq, hq⟩, hw''⟩ := hw'
            subst hw''
            try dsimp only
            go_wp2
            go_ret
            exact ⟨by rw [HE.out]; rfl, bT HB6.out hq⟩
          case pos =>
          subst hf
          by_cases hr : f.r = xr
          case neg =>
            have HE : Hid (lnM m ⟨true, -1, xp, i, xr, xw⟩ = false) := by show _ = _; rw [hln, decide_eq_false hr]; simp
            clear hln
            go_wp2
            have hr2 : (f.r == xr) = false := by rw [beq_eq_false_iff_ne]; exact hr
            have hn2 : 0 ≤ (i : Int) := by omega
            refine wp_region_ext (by kernel_rfl) (by kernel_rfl) ?_
            repeat (go_big_quiet_step (fail))
            refine wpQuiet_nil ?_
            intro _ hw'
            obtain ⟨⟨wq, hq⟩, hw''⟩ := hw'
            subst hw''
            try dsimp only
            go_wp2
            go_ret
            exact ⟨by rw [HE.out]; rfl, bT HB6.out hq⟩
          case pos =>
            subst hr
            rw [decide_eq_true rfl, decide_eq_true rfl, Bool.true_and, Bool.true_and] at hln
            cases xw with
            | false =>
              have HE : Hid (lnM m ⟨true, -1, xp, i, f.r, false⟩ = true) := by show _ = _; rw [hln]; rfl
              clear hln
              go_wp2
              have hf2 : ((i : Int) == (i : Int)) = true := beq_self_eq_true _
              have hr2 : (f.r == f.r) = true := beq_self_eq_true _
              have hn2 : 0 ≤ (i : Int) := by omega
              refine wp_region_ext (by kernel_rfl) (by kernel_rfl) ?_
              repeat (go_big_quiet_step (fail))
              refine wpQuiet_nil ?_
              intro _ hw'
              obtain ⟨⟨wq, hq⟩, hw''⟩ := hw'
              subst hw''
              try dsimp only
              go_wp2
              go_ret
              exact ⟨by rw [HE.out]; rfl, bT HB6.out hq⟩
            | true =>
              have HE : Hid (lnM m ⟨true, -1, xp, i, f.r, true⟩ = true) := by show _ = _; rw [hln, decide_eq_true hp]; rfl
              clear hln
              go_wp2
              have hf2 : ((i : Int) == (i : Int)) = true := beq_self_eq_true _
              have hr2 : (f.r == f.r) = true := beq_self_eq_true _
              have hn2 : 0 ≤ (i : Int) := by omega
              have ht4 : ((-1 : Int) == (-1 : Int)) = true := rfl
              refine wp_region_ext (by kernel_rfl) (by kernel_rfl) ?_
              repeat (go_big_quiet_step (fail))
              refine wpQuiet_nil ?_
              intro _ hw'
              obtain ⟨⟨wq, hq⟩, hw''⟩ := hw'
              subst hw''
              try dsimp only
              go_wp2
              go_ret
              exact ⟨by rw [HE.out]; rfl, bT HB6.out hq⟩
  case neg =>
    by_cases ht : xt = -1
    case pos =>
      subst ht
      have HE : Hid (lnM m ⟨true, -1, xp, xf, xr, xw⟩ = false) := lnM_sh rfl (fun h => hp (h.2 rfl))
      go_enter Tryz.func132, Tryz.ntmps132
      go_wp2
      go_ret
      exact ⟨by rw [HE.out]; rfl, HB0.out⟩
    case neg =>
      have hop := lnSp_of (m := m) (x := ⟨true, xt, xp, xf, xr, xw⟩) hgv hp
      have ht2 : (xt != (-1 : Int)) = true := by rw [bne_iff_ne]; exact ht
      have ht3 : (xt == (-1 : Int)) = false := by rw [beq_eq_false_iff_ne]; exact ht
      go_enter Tryz.func132, Tryz.ntmps132
      go_wp2_with fail
      refine (sSpaceOf_any vo m.g xt _ (HM.out.o.now HB0.out)).mono ?_
      rintro e w1 ⟨rfl, hb1⟩
      have HX1 := Hd (HX0.out.below hb1)
      have HL1 := Hd (HL0.out.below hb1)
      have HB1 := Hd (bT HB0.out hb1)
      clear hb1 m0 m1 m4 m5 m6 m7 x1 x2
      have m0 := HX1.out.cell_ 0 (v := vb) rfl
      have m1 := HX1.out.cell_ 1 (v := .slice Af m.t.fs.length cf) rfl
      have m4 := HX1.out.cell_ 4 (v := .int .i64 m.g.count) rfl
      have m5 := HX1.out.cell_ 5 (v := .int .i64 m.g.next) rfl
      have m6 := HX1.out.cell_ 6 (v := .int .i64 m.g.round) rfl
      have m7 := HX1.out.cell_ 7 (v := vo) rfl
      have x1 := HL1.out.cell_ 1 (v := .int .i64 xt) rfl
      have x2 := HL1.out.cell_ 2 (v := .int .i64 xp) rfl
      cases hso : spO m.g xt with
      | false =>
        have HE : Hid (lnM m ⟨true, xt, xp, xf, xr, xw⟩ = false) := lnM_sp rfl (hop.2 hso)
        go_wp2
        go_ret
        exact ⟨by rw [HE.out]; rfl, HB1.out⟩
      | true =>
        have hsp := hop.1 hso
        have hln := lnM_at2 (m := m) (f := xf) (r := xr) (w := xw) ⟨fun h => absurd h (by omega), fun h => absurd h ht⟩ hsp
        have hkv := lnSp_kval (m := m) (x := ⟨true, xt, xp, xf, xr, xw⟩) hgv hp256 hsp
        generalize spV m.g xt = sp at *
        clear hop hsp
        go_wp2
        have HK := Hd (sKeyFor_any sp xp)
        have HFN := Hd (fun W (h : TaR W vb (.slice Af m.t.fs.length cf) m.t) => l3Find_any vb (.slice Af m.t.fs.length cf) m.t (keyI sp xp) xp W h htv hkv)
        have hidx := @fndI_lt m.t.fs (keyI sp xp) xp
        generalize keyI sp xp = ks at *
        generalize hN : fndI m.t.fs ks xp = N at *
        go_region_held_law (fun w' => w'.cell? ⟨w.heap.size, 0, none⟩ = some vb ∧ w'.cell? ⟨w.heap.size, 1, none⟩ = some (.slice Af m.t.fs.length cf) ∧ w'.cell? ⟨w.heap.size + 1, 2, none⟩ = some (.int .i64 xp)) (go_keep) (first
          | (go_at_call 96
             refine (HK.out _).mono ?_
             rintro _ w5 ⟨rfl, hb5⟩
             have HB5 := Hd (bT (bD HB1.out) hb5)
             have HX5 := Hd (HX1.out.drew.below hb5)
             have HL5 := Hd (HL1.out.drew.below hb5)
             have d0 := HX5.out.cell_ 0 (v := vb) rfl
             have d1 := HX5.out.cell_ 1 (v := .slice Af m.t.fs.length cf) rfl
             have d2 := HL5.out.cell_ 2 (v := .int .i64 xp) rfl
             clear hb5)
          | (go_at_call 57
             refine (HFN.out _ (HM.out.t.now HB5.out)).mono ?_
             rintro _ w6 ⟨stp, rfl, hb6⟩
             have HB6 := Hd (bT HB5.out hb6)
             have HX6 := Hd (HX5.out.below hb6)
             have HL6 := Hd (HL5.out.below hb6)
             have e0 := HX6.out.cell_ 0 (v := vb) rfl
             have e1 := HX6.out.cell_ 1 (v := .slice Af m.t.fs.length cf) rfl
             have e2 := HL6.out.cell_ 2 (v := .int .i64 xp) rfl
             clear hb6 d0 d1 d2))
        all_goals
          clear m0 m1 m4 m5 m6 m7 x1 x2 e0 e1 e2
          have l1 := xcell (HL6.out.cell_ 1 (v := .int .i64 (xt)) rfl) HL6.out.lt
          have l3 := xcell (HL6.out.cell_ 3 (v := .int .i64 xf) rfl) HL6.out.lt
          have l4 := xcell (HL6.out.cell_ 4 (v := .int .i64 xr) rfl) HL6.out.lt
          have l5 := xcell (HL6.out.cell_ 5 (v := .bool xw) rfl) HL6.out.lt
          have l6 := xcell (HX6.out.cell_ 1 (v := .slice Af m.t.fs.length cf) rfl) HX6.out.lt
          by_cases hn : 0 ≤ N
          case neg =>
            have HE : Hid (lnM m ⟨true, xt, xp, xf, xr, xw⟩ = false) := by show _ = _; rw [hln, decide_eq_false hn]; rfl
            clear hidx hln
            go_wp2
            have hn2 : ¬ 0 ≤ N := by omega
            refine wp_region_ext (by kernel_rfl) (by kernel_rfl) ?_
            repeat (go_big_quiet_step (fail))
            refine wpQuiet_nil ?_
            intro _ hw'
            obtain ⟨⟨wq, hq⟩, hw''⟩ := hw'
            subst hw''
            try dsimp only
            go_wp2
            go_ret
            exact ⟨by rw [HE.out]; rfl, bT HB6.out hq⟩
          case pos =>
            obtain ⟨i, f, rfl, ef, _, _⟩ := hidx hn
            obtain ⟨b', o', eA, hbb', f0, f1, f2, f3, f4⟩ := (HFS.out.below HB6.out).fr ef
            subst eA
            have hfr := xcell f3 (by have := HB6.out.size; show b' < _; omega)
            rw [decide_eq_true hn, Int.toNat_natCast, List.getD_eq_getElem?_getD, ef, Option.getD_some, Bool.true_and] at hln
            have hil := (List.getElem?_eq_some_iff.1 ef).1
            clear f0 f1 f2 f3 f4 ef hidx
            by_cases hf : (i : Int) = xf
            case neg =>
              have HE : Hid (lnM m ⟨true, xt, xp, xf, xr, xw⟩ = false) := by show _ = _; rw [hln, decide_eq_false hf]; rfl
              clear hln
              go_wp2
              have hf2 : ((i : Int) == xf) = false := by rw [beq_eq_false_iff_ne]; exact hf
              have hn2 : 0 ≤ (i : Int) := by omega
              refine wp_region_ext (by kernel_rfl) (by kernel_rfl) ?_
              repeat (go_big_quiet_step (fail))
              refine wpQuiet_nil ?_
              intro _ hw'
              obtain ⟨⟨wq, hq⟩, hw''⟩ := hw'
              subst hw''
              try dsimp only
              go_wp2
              go_ret
              exact ⟨by rw [HE.out]; rfl, bT HB6.out hq⟩
            case pos =>
            subst hf
            by_cases hr : f.r = xr
            case neg =>
              have HE : Hid (lnM m ⟨true, xt, xp, i, xr, xw⟩ = false) := by show _ = _; rw [hln, decide_eq_false hr]; simp
              clear hln
              go_wp2
              have hr2 : (f.r == xr) = false := by rw [beq_eq_false_iff_ne]; exact hr
              have hn2 : 0 ≤ (i : Int) := by omega
              refine wp_region_ext (by kernel_rfl) (by kernel_rfl) ?_
              repeat (go_big_quiet_step (fail))
              refine wpQuiet_nil ?_
              intro _ hw'
              obtain ⟨⟨wq, hq⟩, hw''⟩ := hw'
              subst hw''
              try dsimp only
              go_wp2
              go_ret
              exact ⟨by rw [HE.out]; rfl, bT HB6.out hq⟩
            case pos =>
              subst hr
              rw [decide_eq_true rfl, decide_eq_true rfl, Bool.true_and, Bool.true_and] at hln
              cases xw with
              | false =>
                have HE : Hid (lnM m ⟨true, xt, xp, i, f.r, false⟩ = true) := by show _ = _; rw [hln]; rfl
                clear hln
                go_wp2
                have hf2 : ((i : Int) == (i : Int)) = true := beq_self_eq_true _
                have hr2 : (f.r == f.r) = true := beq_self_eq_true _
                have hn2 : 0 ≤ (i : Int) := by omega
                refine wp_region_ext (by kernel_rfl) (by kernel_rfl) ?_
                repeat (go_big_quiet_step (fail))
                refine wpQuiet_nil ?_
                intro _ hw'
                obtain ⟨⟨wq, hq⟩, hw''⟩ := hw'
                subst hw''
                try dsimp only
                go_wp2
                go_ret
                exact ⟨by rw [HE.out]; rfl, bT HB6.out hq⟩
              | true =>
                have HE : Hid (lnM m ⟨true, xt, xp, i, f.r, true⟩ = false) := by show _ = _; rw [hln, decide_eq_false (show ¬ 128 ≤ xp by omega)]; rfl
                clear hln
                go_wp2
                have hf2 : ((i : Int) == (i : Int)) = true := beq_self_eq_true _
                have hr2 : (f.r == f.r) = true := beq_self_eq_true _
                have hn2 : 0 ≤ (i : Int) := by omega
                have ht4 : ((xt : Int) == (-1 : Int)) = false := by rw [beq_eq_false_iff_ne]; exact ht
                refine wp_region_ext (by kernel_rfl) (by kernel_rfl) ?_
                repeat (go_big_quiet_step (fail))
                refine wpQuiet_nil ?_
                intro _ hw'
                obtain ⟨⟨wq, hq⟩, hw''⟩ := hw'
                subst hw''
                try dsimp only
                go_wp2
                go_ret
                exact ⟨by rw [HE.out]; rfl, bT HB6.out hq⟩
end Go.Proofs.YtibpnlojlfcpmaaGreatDoor
