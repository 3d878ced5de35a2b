/- A part of the proofs of this seat: LnS, MvS, MpS, PpS, Mark, Mark2, Mark3, Mark4, Mark5, Mark6, Mk. -/
import Derived.Test.YtnaagdmaggdbmaaGreatDoorKA
import Derived.Test.YtnaagdmaggdbmaaGreatDoorKB
set_option linter.unusedVariables false
set_option linter.unusedSimpArgs false
namespace Go.Proofs.YtnaagdmaggdbmaaGreatDoor
open Go.RowKit
set_option maxRecDepth 1000000
set_option maxHeartbeats 4000000 in
theorem l6Line_any (vb vf vl vo : Value) (m : Ma) (xt xp xf xr : Int) (xw : Bool) (w : World) (hM : MaR w vb vf vl vo m) (htv : tv m.t = true) (hgv : tgv m.g = true) (hp256 : inR xp 256 = true) :
    Calls Tryz.prog 116 #[.agg #[vb, vf, vl, .int .i64 m.c.hand, .int .i64 m.g.count, .int .i64 m.g.next, .int .i64 m.g.round, vo, .int .i64 m.sp], .agg #[.bool true, .int .i64 xt, .int .i64 xp, .int .i64 xf, .int .i64 xr, .bool xw]] w fun r w' => r = .returned (.bool (lnM m ⟨true, xt, xp, xf, xr, xw⟩)) ∧ Below w.heap.size w w' := by
  have HM := Lib.hid hM
  obtain ⟨Af, cf, rfl, hfc, hfm, hF⟩ := hM.t.f
  have HFS := Lib.hid hF
  clear hM hF
  have hbx := (Own.new_ w 34 #[vb, .slice Af m.t.fs.length cf, vl, .int .i64 m.c.hand, .int .i64 m.g.count, .int .i64 m.g.next, .int .i64 m.g.round, vo, .int .i64 m.sp]).alloc (o := .cells #[.bool true, .int .i64 xt, .int .i64 xp, .int .i64 xf, .int .i64 xr, .bool xw] 106)
  have hbl := Own.new_ (w.alloc (.cells #[vb, .slice Af m.t.fs.length cf, vl, .int .i64 m.c.hand, .int .i64 m.g.count, .int .i64 m.g.next, .int .i64 m.g.round, vo, .int .i64 m.sp] 34)) 106 #[.bool true, .int .i64 xt, .int .i64 xp, .int .i64 xf, .int .i64 xr, .bool xw]
  have hb0 : Below w.heap.size w ((w.alloc (.cells #[vb, .slice Af m.t.fs.length cf, vl, .int .i64 m.c.hand, .int .i64 m.g.count, .int .i64 m.g.next, .int .i64 m.g.round, vo, .int .i64 m.sp] 34)).alloc (.cells #[.bool true, .int .i64 xt, .int .i64 xp, .int .i64 xf, .int .i64 xr, .bool xw] 106)) := bA (bA bR)
  rw [show (w.alloc (.cells #[vb, .slice Af m.t.fs.length cf, vl, .int .i64 m.c.hand, .int .i64 m.g.count, .int .i64 m.g.next, .int .i64 m.g.round, vo, .int .i64 m.sp] 34)).heap.size = w.heap.size + 1 by simp] at hbl
  generalize hW : (w.alloc (.cells #[vb, .slice Af m.t.fs.length cf, vl, .int .i64 m.c.hand, .int .i64 m.g.count, .int .i64 m.g.next, .int .i64 m.g.round, vo, .int .i64 m.sp] 34)).alloc (.cells #[.bool true, .int .i64 xt, .int .i64 xp, .int .i64 xf, .int .i64 xr, .bool xw] 106) = W0 at hbx hbl hb0
  have HX0 := Lib.hid hbx
  have HL0 := Lib.hid hbl
  have HB0 := Lib.hid hb0
  clear hbx hbl hb0
  have m0 := HX0.out.cell_ 0 (v := vb) rfl
  have m1 := HX0.out.cell_ 1 (v := .slice Af m.t.fs.length cf) rfl
  have m4 := HX0.out.cell_ 4 (v := .int .i64 m.g.count) rfl
  have m5 := HX0.out.cell_ 5 (v := .int .i64 m.g.next) rfl
  have m6 := HX0.out.cell_ 6 (v := .int .i64 m.g.round) rfl
  have m7 := HX0.out.cell_ 7 (v := vo) rfl
  have x1 := HL0.out.cell_ 1 (v := .int .i64 xt) rfl
  have x2 := HL0.out.cell_ 2 (v := .int .i64 xp) rfl
  by_cases hp : 128 ≤ xp
  case pos =>
    by_cases ht : xt = -1
    case neg =>
      have HE : Hid (lnM m ⟨true, xt, xp, xf, xr, xw⟩ = false) := lnM_sh rfl (fun h => ht (h.1 hp))
      have ht3 : (xt == (-1 : Int)) = false := by rw [beq_eq_false_iff_ne]; exact ht
      go_enter Tryz.func116, Tryz.ntmps116
      go_wp2
      go_ret
      exact ⟨by rw [HE.out]; rfl, HB0.out⟩
    case pos =>
      subst ht
      have hln := lnM_at2 (m := m) (f := xf) (r := xr) (w := xw) ⟨fun _ => rfl, fun _ => hp⟩ (lnSp_sh hp)
      have hkv := lnSp_kval (m := m) (x := ⟨true, -1, xp, xf, xr, xw⟩) hgv hp256 (lnSp_sh hp)
      go_enter Tryz.func116, Tryz.ntmps116
      go_wp2
      have HK := Lib.hid (sKeyFor_any 0 xp)
      have HFN := Lib.hid (fun W (h : TaR W vb (.slice Af m.t.fs.length cf) m.t) => l3Find_any vb (.slice Af m.t.fs.length cf) m.t (keyI 0 xp) xp W h htv hkv)
      have hidx := @fndI_lt m.t.fs (keyI 0 xp) xp
      generalize keyI 0 xp = ks at *
      generalize hN : fndI m.t.fs ks xp = N at *
      go_region_held_law (fun w' => w'.cell? ⟨w.heap.size, 0, none⟩ = some vb ∧ w'.cell? ⟨w.heap.size, 1, none⟩ = some (.slice Af m.t.fs.length cf) ∧ w'.cell? ⟨w.heap.size + 1, 2, none⟩ = some (.int .i64 xp)) (go_keep) (first
        | (go_at_call 49
           refine (HK.out _).mono ?_
           rintro _ w5 ⟨rfl, hb5⟩
           have HB5 := Lib.hid (bT (bD HB0.out) hb5)
           have HX5 := Lib.hid (HX0.out.drew.below hb5)
           have HL5 := Lib.hid (HL0.out.drew.below hb5)
           have d0 := HX5.out.cell_ 0 (v := vb) rfl
           have d1 := HX5.out.cell_ 1 (v := .slice Af m.t.fs.length cf) rfl
           have d2 := HL5.out.cell_ 2 (v := .int .i64 xp) rfl
           clear hb5)
        | (go_at_call 144
           refine (HFN.out _ (HM.out.t.now HB5.out)).mono ?_
           rintro _ w6 ⟨stp, rfl, hb6⟩
           have HB6 := Lib.hid (bT HB5.out hb6)
           have HX6 := Lib.hid (HX5.out.below hb6)
           have HL6 := Lib.hid (HL5.out.below hb6)
           have e0 := HX6.out.cell_ 0 (v := vb) rfl
           have e1 := HX6.out.cell_ 1 (v := .slice Af m.t.fs.length cf) rfl
           have e2 := HL6.out.cell_ 2 (v := .int .i64 xp) rfl
           clear hb6 d0 d1 d2))
      all_goals
        clear m0 m1 m4 m5 m6 m7 x1 x2 e0 e1 e2
        have l1 := xcell (HL6.out.cell_ 1 (v := .int .i64 (-1)) rfl) HL6.out.lt
        have l3 := xcell (HL6.out.cell_ 3 (v := .int .i64 xf) rfl) HL6.out.lt
        have l4 := xcell (HL6.out.cell_ 4 (v := .int .i64 xr) rfl) HL6.out.lt
        have l5 := xcell (HL6.out.cell_ 5 (v := .bool xw) rfl) HL6.out.lt
        have l6 := xcell (HX6.out.cell_ 1 (v := .slice Af m.t.fs.length cf) rfl) HX6.out.lt
        by_cases hn : 0 ≤ N
        case neg =>
          have HE : Hid (lnM m ⟨true, -1, xp, xf, xr, xw⟩ = false) := by show _ = _; rw [hln, decide_eq_false hn]; rfl
          clear hidx hln
          go_wp2
          have hn2 : ¬ 0 ≤ N := by omega
          refine wp_region_ext (by kernel_rfl) (by kernel_rfl) ?_
          repeat (go_big_quiet_step (fail))
          refine wpQuiet_nil ?_
          intro _ hw'
          obtain ⟨⟨wq, hq⟩, hw''⟩ := hw'
          subst hw''
          try dsimp only
          go_wp2
          go_ret
          exact ⟨by rw [HE.out]; rfl, bT HB6.out hq⟩
        case pos =>
          obtain ⟨i, f, rfl, ef, _, _⟩ := hidx hn
          obtain ⟨b', o', eA, hbb', f0, f1, f2, f3, f4⟩ := (HFS.out.below HB6.out).fr ef
          subst eA
          have hfr := xcell f3 (by have := HB6.out.size; show b' < _; omega)
          rw [decide_eq_true hn, Int.toNat_natCast, List.getD_eq_getElem?_getD, ef, Option.getD_some, Bool.true_and] at hln
          have hil := (List.getElem?_eq_some_iff.1 ef).1
          clear f0 f1 f2 f3 f4 ef hidx
          by_cases hf : (i : Int) = xf
          case neg =>
            have HE : Hid (lnM m ⟨true, -1, xp, xf, xr, xw⟩ = false) := by show _ = _; rw [hln, decide_eq_false hf]; rfl
            clear hln
            go_wp2
            have hf2 : ((i : Int) == xf) = false := by rw [beq_eq_false_iff_ne]; exact hf
            have hn2 : 0 ≤ (i : Int) := by omega
            refine wp_region_ext (by kernel_rfl) (by kernel_rfl) ?_
            repeat (go_big_quiet_step (fail))
            refine wpQuiet_nil ?_
            intro _ hw'
            obtain ⟨⟨wq, hq⟩, hw''⟩ := hw'
            subst hw''
            try dsimp only
            go_wp2
            go_ret
            exact ⟨by rw [HE.out]; rfl, bT HB6.out hq⟩
          case pos =>
          subst hf
          by_cases hr : f.r = xr
          case neg =>
            have HE : Hid (lnM m ⟨true, -1, xp, i, xr, xw⟩ = false) := by show _ = _; rw [hln, decide_eq_false hr]; simp
            clear hln
            go_wp2
            have hr2 : (f.r == xr) = false := by rw [beq_eq_false_iff_ne]; exact hr
            have hn2 : 0 ≤ (i : Int) := by omega
            refine wp_region_ext (by kernel_rfl) (by kernel_rfl) ?_
            repeat (go_big_quiet_step (fail))
            refine wpQuiet_nil ?_
            intro _ hw'
            obtain ⟨⟨wq, hq⟩, hw''⟩ := hw'
            subst hw''
            try dsimp only
            go_wp2
            go_ret
            exact ⟨by rw [HE.out]; rfl, bT HB6.out hq⟩
          case pos =>
            subst hr
            rw [decide_eq_true rfl, decide_eq_true rfl, Bool.true_and, Bool.true_and] at hln
            cases xw with
            | false =>
              have HE : Hid (lnM m ⟨true, -1, xp, i, f.r, false⟩ = true) := by show _ = _; rw [hln]; rfl
              clear hln
              go_wp2
              have hf2 : ((i : Int) == (i : Int)) = true := beq_self_eq_true _
              have hr2 : (f.r == f.r) = true := beq_self_eq_true _
              have hn2 : 0 ≤ (i : Int) := by omega
              refine wp_region_ext (by kernel_rfl) (by kernel_rfl) ?_
              repeat (go_big_quiet_step (fail))
              refine wpQuiet_nil ?_
              intro _ hw'
              obtain ⟨⟨wq, hq⟩, hw''⟩ := hw'
              subst hw''
              try dsimp only
              go_wp2
              go_ret
              exact ⟨by rw [HE.out]; rfl, bT HB6.out hq⟩
            | true =>
              have HE : Hid (lnM m ⟨true, -1, xp, i, f.r, true⟩ = true) := by show _ = _; rw [hln, decide_eq_true hp]; rfl
              clear hln
              go_wp2
              have hf2 : ((i : Int) == (i : Int)) = true := beq_self_eq_true _
              have hr2 : (f.r == f.r) = true := beq_self_eq_true _
              have hn2 : 0 ≤ (i : Int) := by omega
              have ht4 : ((-1 : Int) == (-1 : Int)) = true := rfl
              refine wp_region_ext (by kernel_rfl) (by kernel_rfl) ?_
              repeat (go_big_quiet_step (fail))
              refine wpQuiet_nil ?_
              intro _ hw'
              obtain ⟨⟨wq, hq⟩, hw''⟩ := hw'
              subst hw''
              try dsimp only
              go_wp2
              go_ret
              exact ⟨by rw [HE.out]; rfl, bT HB6.out hq⟩
  case neg =>
    by_cases ht : xt = -1
    case pos =>
      subst ht
      have HE : Hid (lnM m ⟨true, -1, xp, xf, xr, xw⟩ = false) := lnM_sh rfl (fun h => hp (h.2 rfl))
      go_enter Tryz.func116, Tryz.ntmps116
      go_wp2
      go_ret
      exact ⟨by rw [HE.out]; rfl, HB0.out⟩
    case neg =>
      have hop := lnSp_of (m := m) (x := ⟨true, xt, xp, xf, xr, xw⟩) hgv hp
      have ht2 : (xt != (-1 : Int)) = true := by rw [bne_iff_ne]; exact ht
      have ht3 : (xt == (-1 : Int)) = false := by rw [beq_eq_false_iff_ne]; exact ht
      go_enter Tryz.func116, Tryz.ntmps116
      go_wp2_with fail
      refine (sSpaceOf_any vo m.g xt _ (HM.out.o.now HB0.out)).mono ?_
      rintro e w1 ⟨rfl, hb1⟩
      have HX1 := Lib.hid (HX0.out.below hb1)
      have HL1 := Lib.hid (HL0.out.below hb1)
      have HB1 := Lib.hid (bT HB0.out hb1)
      clear hb1 m0 m1 m4 m5 m6 m7 x1 x2
      have m0 := HX1.out.cell_ 0 (v := vb) rfl
      have m1 := HX1.out.cell_ 1 (v := .slice Af m.t.fs.length cf) rfl
      have m4 := HX1.out.cell_ 4 (v := .int .i64 m.g.count) rfl
      have m5 := HX1.out.cell_ 5 (v := .int .i64 m.g.next) rfl
      have m6 := HX1.out.cell_ 6 (v := .int .i64 m.g.round) rfl
      have m7 := HX1.out.cell_ 7 (v := vo) rfl
      have x1 := HL1.out.cell_ 1 (v := .int .i64 xt) rfl
      have x2 := HL1.out.cell_ 2 (v := .int .i64 xp) rfl
      cases hso : spO m.g xt with
      | false =>
        have HE : Hid (lnM m ⟨true, xt, xp, xf, xr, xw⟩ = false) := lnM_sp rfl (hop.2 hso)
        go_wp2
        go_ret
        exact ⟨by rw [HE.out]; rfl, HB1.out⟩
      | true =>
        have hsp := hop.1 hso
        have hln := lnM_at2 (m := m) (f := xf) (r := xr) (w := xw) ⟨fun h => absurd h (by omega), fun h => absurd h ht⟩ hsp
        have hkv := lnSp_kval (m := m) (x := ⟨true, xt, xp, xf, xr, xw⟩) hgv hp256 hsp
        generalize spV m.g xt = sp at *
        clear hop hsp
        go_wp2
        have HK := Lib.hid (sKeyFor_any sp xp)
        have HFN := Lib.hid (fun W (h : TaR W vb (.slice Af m.t.fs.length cf) m.t) => l3Find_any vb (.slice Af m.t.fs.length cf) m.t (keyI sp xp) xp W h htv hkv)
        have hidx := @fndI_lt m.t.fs (keyI sp xp) xp
        generalize keyI sp xp = ks at *
        generalize hN : fndI m.t.fs ks xp = N at *
        go_region_held_law (fun w' => w'.cell? ⟨w.heap.size, 0, none⟩ = some vb ∧ w'.cell? ⟨w.heap.size, 1, none⟩ = some (.slice Af m.t.fs.length cf) ∧ w'.cell? ⟨w.heap.size + 1, 2, none⟩ = some (.int .i64 xp)) (go_keep) (first
          | (go_at_call 49
             refine (HK.out _).mono ?_
             rintro _ w5 ⟨rfl, hb5⟩
             have HB5 := Lib.hid (bT (bD HB1.out) hb5)
             have HX5 := Lib.hid (HX1.out.drew.below hb5)
             have HL5 := Lib.hid (HL1.out.drew.below hb5)
             have d0 := HX5.out.cell_ 0 (v := vb) rfl
             have d1 := HX5.out.cell_ 1 (v := .slice Af m.t.fs.length cf) rfl
             have d2 := HL5.out.cell_ 2 (v := .int .i64 xp) rfl
             clear hb5)
          | (go_at_call 144
             refine (HFN.out _ (HM.out.t.now HB5.out)).mono ?_
             rintro _ w6 ⟨stp, rfl, hb6⟩
             have HB6 := Lib.hid (bT HB5.out hb6)
             have HX6 := Lib.hid (HX5.out.below hb6)
             have HL6 := Lib.hid (HL5.out.below hb6)
             have e0 := HX6.out.cell_ 0 (v := vb) rfl
             have e1 := HX6.out.cell_ 1 (v := .slice Af m.t.fs.length cf) rfl
             have e2 := HL6.out.cell_ 2 (v := .int .i64 xp) rfl
             clear hb6 d0 d1 d2))
        all_goals
          clear m0 m1 m4 m5 m6 m7 x1 x2 e0 e1 e2
          have l1 := xcell (HL6.out.cell_ 1 (v := .int .i64 (xt)) rfl) HL6.out.lt
          have l3 := xcell (HL6.out.cell_ 3 (v := .int .i64 xf) rfl) HL6.out.lt
          have l4 := xcell (HL6.out.cell_ 4 (v := .int .i64 xr) rfl) HL6.out.lt
          have l5 := xcell (HL6.out.cell_ 5 (v := .bool xw) rfl) HL6.out.lt
          have l6 := xcell (HX6.out.cell_ 1 (v := .slice Af m.t.fs.length cf) rfl) HX6.out.lt
          by_cases hn : 0 ≤ N
          case neg =>
            have HE : Hid (lnM m ⟨true, xt, xp, xf, xr, xw⟩ = false) := by show _ = _; rw [hln, decide_eq_false hn]; rfl
            clear hidx hln
            go_wp2
            have hn2 : ¬ 0 ≤ N := by omega
            refine wp_region_ext (by kernel_rfl) (by kernel_rfl) ?_
            repeat (go_big_quiet_step (fail))
            refine wpQuiet_nil ?_
            intro _ hw'
            obtain ⟨⟨wq, hq⟩, hw''⟩ := hw'
            subst hw''
            try dsimp only
            go_wp2
            go_ret
            exact ⟨by rw [HE.out]; rfl, bT HB6.out hq⟩
          case pos =>
            obtain ⟨i, f, rfl, ef, _, _⟩ := hidx hn
            obtain ⟨b', o', eA, hbb', f0, f1, f2, f3, f4⟩ := (HFS.out.below HB6.out).fr ef
            subst eA
            have hfr := xcell f3 (by have := HB6.out.size; show b' < _; omega)
            rw [decide_eq_true hn, Int.toNat_natCast, List.getD_eq_getElem?_getD, ef, Option.getD_some, Bool.true_and] at hln
            have hil := (List.getElem?_eq_some_iff.1 ef).1
            clear f0 f1 f2 f3 f4 ef hidx
            by_cases hf : (i : Int) = xf
            case neg =>
              have HE : Hid (lnM m ⟨true, xt, xp, xf, xr, xw⟩ = false) := by show _ = _; rw [hln, decide_eq_false hf]; rfl
              clear hln
              go_wp2
              have hf2 : ((i : Int) == xf) = false := by rw [beq_eq_false_iff_ne]; exact hf
              have hn2 : 0 ≤ (i : Int) := by omega
              refine wp_region_ext (by kernel_rfl) (by kernel_rfl) ?_
              repeat (go_big_quiet_step (fail))
              refine wpQuiet_nil ?_
              intro _ hw'
              obtain ⟨⟨wq, hq⟩, hw''⟩ := hw'
              subst hw''
              try dsimp only
              go_wp2
              go_ret
              exact ⟨by rw [HE.out]; rfl, bT HB6.out hq⟩
            case pos =>
            subst hf
            by_cases hr : f.r = xr
            case neg =>
              have HE : Hid (lnM m ⟨true, xt, xp, i, xr, xw⟩ = false) := by show _ = _; rw [hln, decide_eq_false hr]; simp
              clear hln
              go_wp2
              have hr2 : (f.r == xr) = false := by rw [beq_eq_false_iff_ne]; exact hr
              have hn2 : 0 ≤ (i : Int) := by omega
              refine wp_region_ext (by kernel_rfl) (by kernel_rfl) ?_
              repeat (go_big_quiet_step (fail))
              refine wpQuiet_nil ?_
              intro _ hw'
              obtain ⟨⟨wq, hq⟩, hw''⟩ := hw'
              subst hw''
              try dsimp only
              go_wp2
              go_ret
              exact ⟨by rw [HE.out]; rfl, bT HB6.out hq⟩
            case pos =>
              subst hr
              rw [decide_eq_true rfl, decide_eq_true rfl, Bool.true_and, Bool.true_and] at hln
              cases xw with
              | false =>
                have HE : Hid (lnM m ⟨true, xt, xp, i, f.r, false⟩ = true) := by show _ = _; rw [hln]; rfl
                clear hln
                go_wp2
                have hf2 : ((i : Int) == (i : Int)) = true := beq_self_eq_true _
                have hr2 : (f.r == f.r) = true := beq_self_eq_true _
                have hn2 : 0 ≤ (i : Int) := by omega
                refine wp_region_ext (by kernel_rfl) (by kernel_rfl) ?_
                repeat (go_big_quiet_step (fail))
                refine wpQuiet_nil ?_
                intro _ hw'
                obtain ⟨⟨wq, hq⟩, hw''⟩ := hw'
                subst hw''
                try dsimp only
                go_wp2
                go_ret
                exact ⟨by rw [HE.out]; rfl, bT HB6.out hq⟩
              | true =>
                have HE : Hid (lnM m ⟨true, xt, xp, i, f.r, true⟩ = false) := by show _ = _; rw [hln, decide_eq_false (show ¬ 128 ≤ xp by omega)]; rfl
                clear hln
                go_wp2
                have hf2 : ((i : Int) == (i : Int)) = true := beq_self_eq_true _
                have hr2 : (f.r == f.r) = true := beq_self_eq_true _
                have hn2 : 0 ≤ (i : Int) := by omega
                have ht4 : ((xt : Int) == (-1 : Int)) = false := by rw [beq_eq_false_iff_ne]; exact ht
                refine wp_region_ext (by kernel_rfl) (by kernel_rfl) ?_
                repeat (go_big_quiet_step (fail))
                refine wpQuiet_nil ?_
                intro _ hw'
                obtain ⟨⟨wq, hq⟩, hw''⟩ := hw'
                subst hw''
                try dsimp only
                go_wp2
                go_ret
                exact ⟨by rw [HE.out]; rfl, bT HB6.out hq⟩
end Go.Proofs.YtnaagdmaggdbmaaGreatDoor
namespace Go.Proofs.YtnaagdmaggdbmaaGreatDoor
open Go.RowKit
set_option maxRecDepth 1000000
set_option maxHeartbeats 4000000 in
theorem sMachineValid_any (vb vf vl vo : Value) (m : Ma) (w : World) (hM : MaR w vb vf vl vo m) :
    Calls Tryz.prog 53 #[.agg #[vb, vf, vl, .int .i64 m.c.hand, .int .i64 m.g.count, .int .i64 m.g.next, .int .i64 m.g.round, vo, .int .i64 m.sp]] w fun r w' => r = .returned (.bool (mav m)) ∧ Below w.heap.size w w' := by
  have HM := Lib.hid hM
  have hbx := Own.new_ w 34 #[vb, vf, vl, .int .i64 m.c.hand, .int .i64 m.g.count, .int .i64 m.g.next, .int .i64 m.g.round, vo, .int .i64 m.sp]
  have hbz : Below w.heap.size w (w.alloc (.cells #[vb, vf, vl, .int .i64 m.c.hand, .int .i64 m.g.count, .int .i64 m.g.next, .int .i64 m.g.round, vo, .int .i64 m.sp] 34)) := bA bR
  generalize hW : w.alloc (.cells #[vb, vf, vl, .int .i64 m.c.hand, .int .i64 m.g.count, .int .i64 m.g.next, .int .i64 m.g.round, vo, .int .i64 m.sp] 34) = W0 at hbx hbz
  have HX0 := Lib.hid hbx
  have HB0 := Lib.hid hbz
  clear hbx hbz
  clear hM
  have m00 := HX0.out.cell_ 0 (v := vb) rfl
  have m10 := HX0.out.cell_ 1 (v := vf) rfl
  have m20 := HX0.out.cell_ 2 (v := vl) rfl
  have m30 := HX0.out.cell_ 3 (v := .int .i64 m.c.hand) rfl
  have m40 := HX0.out.cell_ 4 (v := .int .i64 m.g.count) rfl
  have m50 := HX0.out.cell_ 5 (v := .int .i64 m.g.next) rfl
  have m60 := HX0.out.cell_ 6 (v := .int .i64 m.g.round) rfl
  have m70 := HX0.out.cell_ 7 (v := vo) rfl
  have m80 := HX0.out.cell_ 8 (v := .int .i64 m.sp) rfl
  go_enter Tryz.func53, Tryz.ntmps53
  go_wp2_with fail
  refine (sTableValid_any vb vf m.t _ (HM.out.t.now HB0.out)).mono ?_
  rintro e w1 ⟨rfl, hb1⟩
  have HX1 := Lib.hid (HX0.out.below hb1)
  have HB1 := Lib.hid (bT HB0.out hb1)
  clear hb1
  clear m00 m10 m20 m30 m40 m50 m60 m70 m80
  have m01 := HX1.out.cell_ 0 (v := vb) rfl
  have m11 := HX1.out.cell_ 1 (v := vf) rfl
  have m21 := HX1.out.cell_ 2 (v := vl) rfl
  have m31 := HX1.out.cell_ 3 (v := .int .i64 m.c.hand) rfl
  have m41 := HX1.out.cell_ 4 (v := .int .i64 m.g.count) rfl
  have m51 := HX1.out.cell_ 5 (v := .int .i64 m.g.next) rfl
  have m61 := HX1.out.cell_ 6 (v := .int .i64 m.g.round) rfl
  have m71 := HX1.out.cell_ 7 (v := vo) rfl
  have m81 := HX1.out.cell_ 8 (v := .int .i64 m.sp) rfl
  cases h1 : tv m.t with
  | false =>
    have HE : Hid (mav m = false) := mav_no fun h => by have := (mav_parts h).1; rw [h1] at this; cases this
    go_wp2
    go_ret
    exact ⟨by rw [HE.out]; rfl, HB1.out⟩
  | true =>
  go_wp2_with fail
  refine (sCacheValid_any vl m.c _ (HM.out.l.now HB1.out)).mono ?_
  rintro e w2 ⟨rfl, hb2⟩
  have HX2 := Lib.hid (HX1.out.below hb2)
  have HB2 := Lib.hid (bT HB1.out hb2)
  clear hb2
  clear m01 m11 m21 m31 m41 m51 m61 m71 m81
  have m02 := HX2.out.cell_ 0 (v := vb) rfl
  have m12 := HX2.out.cell_ 1 (v := vf) rfl
  have m22 := HX2.out.cell_ 2 (v := vl) rfl
  have m32 := HX2.out.cell_ 3 (v := .int .i64 m.c.hand) rfl
  have m42 := HX2.out.cell_ 4 (v := .int .i64 m.g.count) rfl
  have m52 := HX2.out.cell_ 5 (v := .int .i64 m.g.next) rfl
  have m62 := HX2.out.cell_ 6 (v := .int .i64 m.g.round) rfl
  have m72 := HX2.out.cell_ 7 (v := vo) rfl
  have m82 := HX2.out.cell_ 8 (v := .int .i64 m.sp) rfl
  cases h2 : cav m.c with
  | false =>
    have HE : Hid (mav m = false) := mav_no fun h => by have := (mav_parts h).2.1; rw [h2] at this; cases this
    go_wp2
    go_ret
    exact ⟨by rw [HE.out]; rfl, HB2.out⟩
  | true =>
  go_wp2_with fail
  refine (sTagsValid_any vo m.g _ (HM.out.o.now HB2.out)).mono ?_
  rintro e w3 ⟨rfl, hb3⟩
  have HX3 := Lib.hid (HX2.out.below hb3)
  have HB3 := Lib.hid (bT HB2.out hb3)
  clear hb3
  clear m02 m12 m22 m32 m42 m52 m62 m72 m82
  have m03 := HX3.out.cell_ 0 (v := vb) rfl
  have m13 := HX3.out.cell_ 1 (v := vf) rfl
  have m23 := HX3.out.cell_ 2 (v := vl) rfl
  have m33 := HX3.out.cell_ 3 (v := .int .i64 m.c.hand) rfl
  have m43 := HX3.out.cell_ 4 (v := .int .i64 m.g.count) rfl
  have m53 := HX3.out.cell_ 5 (v := .int .i64 m.g.next) rfl
  have m63 := HX3.out.cell_ 6 (v := .int .i64 m.g.round) rfl
  have m73 := HX3.out.cell_ 7 (v := vo) rfl
  have m83 := HX3.out.cell_ 8 (v := .int .i64 m.sp) rfl
  cases h3 : tgv m.g with
  | false =>
    have HE : Hid (mav m = false) := mav_no fun h => by have := (mav_parts h).2.2.1; rw [h3] at this; cases this
    go_wp2
    go_ret
    exact ⟨by rw [HE.out]; rfl, HB3.out⟩
  | true =>
  go_wp2_with fail
  refine (l5Find_any vo m.g m.sp _ (HM.out.o.now HB3.out)).mono ?_
  rintro e w4 ⟨rfl, hb4⟩
  have HX4 := Lib.hid (HX3.out.below hb4)
  have HB4 := Lib.hid (bT HB3.out hb4)
  clear hb4
  clear m03 m13 m23 m33 m43 m53 m63 m73 m83
  have m04 := HX4.out.cell_ 0 (v := vb) rfl
  have m14 := HX4.out.cell_ 1 (v := vf) rfl
  have m24 := HX4.out.cell_ 2 (v := vl) rfl
  have m34 := HX4.out.cell_ 3 (v := .int .i64 m.c.hand) rfl
  have m44 := HX4.out.cell_ 4 (v := .int .i64 m.g.count) rfl
  have m54 := HX4.out.cell_ 5 (v := .int .i64 m.g.next) rfl
  have m64 := HX4.out.cell_ 6 (v := .int .i64 m.g.round) rfl
  have m74 := HX4.out.cell_ 7 (v := vo) rfl
  have m84 := HX4.out.cell_ 8 (v := .int .i64 m.sp) rfl
  by_cases h4 : ownI m.g.os m.sp < 0
  · have HE : Hid (mav m = false) := mav_no fun h => by have := (mav_parts h).2.2.2.1; omega
    go_wp2
    go_ret
    exact ⟨by rw [HE.out]; rfl, HB4.out⟩
  obtain ⟨Af, cf, rfl, hfc, hfm, hF⟩ := HM.out.t.f
  have hfl : m.t.fs.length ≤ 16 := (tv_parts h1).1.2.1
  have HFS := Lib.hid hF
  clear hF
  go_wp2
  clear m04 m14 m24 m34 m44 m54 m64 m74 m84
  go_loopw [3] (fun u wr => ∃ k : Nat, k ≤ m.t.fs.length ∧ u = .int .i64 k ∧ Hid (All_ frM m.t.fs k) ∧ Below w4.heap.size w4 wr) (fun u _ => m.t.fs.length - (intOf u).toNat)
  case atStart => exact ⟨0, by omega, rfl, all_zero, bR⟩
  case round =>
    obtain ⟨k, hk, rfl, hall, hb5⟩ := hrel
    have hm1 := (HX4.out.below hb5).cell_ 1 (v := .slice Af m.t.fs.length cf) rfl
    have hwl := (HX4.out.below hb5).lt
    by_cases hlt : k < m.t.fs.length
    · obtain ⟨f, ef⟩ : ∃ f, m.t.fs[k]? = some f := ⟨_, List.getElem?_eq_getElem hlt⟩
      obtain ⟨b, o, rfl, hbb, d0, d1, d2, d3, d4⟩ := (HFS.out.below (bT HB4.out hb5)).fr ef
      have EF := Lib.hid ef
      clear ef
      cases hu : f.used with
      | false =>
        rw [hu] at d0
        have HA := Lib.hid (all_step hall.out EF.out (by unfold frM; rw [hu]; rfl))
        go_wp2
        go_roundw
        case rel => exact ⟨k + 1, by omega, by go_num, HA, bA hb5⟩
        case measure => simp [intOf]; omega
      | true =>
      rw [hu] at d0
      by_cases hp : 128 ≤ f.p
      case neg =>
        have HA := Lib.hid (all_step hall.out EF.out (by unfold frM; rw [decide_eq_false hp]; simp))
        go_wp2
        go_roundw
        case rel => exact ⟨k + 1, by omega, by go_num, HA, bA hb5⟩
        case measure => simp [intOf]; omega
      case pos =>
      by_cases hs : f.s = 0
      case pos =>
        have HA := Lib.hid (all_step hall.out EF.out (by unfold frM; rw [decide_eq_true hs]; simp))
        go_wp2
        go_roundw
        case rel => exact ⟨k + 1, by omega, by go_num, HA, bA hb5⟩
        case measure => simp [intOf]; omega
      case neg =>
        have HE : Hid (mav m = false) := mav_fr EF.out (by unfold frM; rw [hu, decide_eq_true hp, decide_eq_false hs]; rfl)
        go_wp2
        go_ret
        exact ⟨by rw [HE.out]; rfl, bA (bT HB4.out hb5)⟩
    · obtain rfl : k = m.t.fs.length := by omega
      have HFA := Lib.hid (all_end hall.out)
      clear hall
      obtain ⟨Al, cl, rfl, hlc, hlm, hL⟩ := HM.out.l
      have hll : m.c.ls.length ≤ 8 := (cav_parts h2).2.1
      have HLS := Lib.hid hL
      have HX5 := Lib.hid (HX4.out.below hb5)
      have HB5 := Lib.hid (bT HB4.out hb5)
      clear hL hb5
      go_wp2
      clear hm1 hwl
      obtain ⟨w5, rfl⟩ : ∃ w5, w5 = wr := ⟨_, rfl⟩
      go_loopw [5] (fun u wi => ∃ k : Nat, k ≤ m.c.ls.length ∧ u = .int .i64 k ∧ Hid (All_ (lnM m) m.c.ls k) ∧ Below w5.heap.size w5 wi) (fun u _ => m.c.ls.length - (intOf u).toNat)
      case atStart => exact ⟨0, by omega, rfl, all_zero, bR⟩
      case round =>
        obtain ⟨k, hk, rfl, hall, hb6⟩ := hrel
        have HX6 := Lib.hid (HX5.out.below hb6)
        have hm2 := HX6.out.cell_ 2 (v := .slice Al m.c.ls.length cl) rfl
        by_cases hlt : k < m.c.ls.length
        · obtain ⟨x, ex⟩ : ∃ x, m.c.ls[k]? = some x := ⟨_, List.getElem?_eq_getElem hlt⟩
          obtain ⟨x', ex', hok, _⟩ := lok_at (cav_parts h2).2.2.2.1 hlt
          rw [ex] at ex'
          injection ex' with ex'
          subst ex'
          obtain ⟨xv, xt, xp, xf, xr, xw⟩ := x
          obtain ⟨b, o, rfl, hbb, d0, d1, d2, d3, d4, d5⟩ := (HLS.out.below (bT HB5.out hb6)).ln ex
          have EX := Lib.hid ex
          have hbl : b < wr.heap.size := by have := (bT HB5.out hb6).size; omega
          have y0 := xcell d0 (by show b < _; exact hbl)
          have y1 := xcell d1 (by show b < _; exact hbl)
          have y2 := xcell d2 (by show b < _; exact hbl)
          have y3 := xcell d3 (by show b < _; exact hbl)
          have y4 := xcell d4 (by show b < _; exact hbl)
          have y5 := xcell d5 (by show b < _; exact hbl)
          have n0 := xcell (HX6.out.cell_ 0 (v := vb) rfl) HX6.out.lt
          have n1 := xcell (HX6.out.cell_ 1 (v := .slice Af m.t.fs.length cf) rfl) HX6.out.lt
          have n2 := xcell (HX6.out.cell_ 2 (v := .slice (some ⟨b, o, none⟩) m.c.ls.length cl) rfl) HX6.out.lt
          have n3 := xcell (HX6.out.cell_ 3 (v := .int .i64 m.c.hand) rfl) HX6.out.lt
          have n4 := xcell (HX6.out.cell_ 4 (v := .int .i64 m.g.count) rfl) HX6.out.lt
          have n5 := xcell (HX6.out.cell_ 5 (v := .int .i64 m.g.next) rfl) HX6.out.lt
          have n6 := xcell (HX6.out.cell_ 6 (v := .int .i64 m.g.round) rfl) HX6.out.lt
          have n7 := xcell (HX6.out.cell_ 7 (v := vo) rfl) HX6.out.lt
          have n8 := xcell (HX6.out.cell_ 8 (v := .int .i64 m.sp) rfl) HX6.out.lt
          have HM6 := Lib.hid (HM.out.now (bT HB5.out hb6))
          clear ex d0 d1 d2 d3 d4 d5
          cases xv with
          | false =>
            have HA := Lib.hid (all_step hall.out EX.out (lnM_inv rfl))
            go_wp2
            refine wp_region_ext (by kernel_rfl) (by kernel_rfl) ?_
            repeat (go_big_quiet_step (fail))
            refine wpQuiet_nil ?_
            intro _ hw'
            obtain ⟨⟨wq, hq⟩, hw''⟩ := hw'
            subst hw''
            try dsimp only
            go_wp2
            go_roundw
            case rel => exact ⟨k + 1, by omega, by go_num, HA, bT hb6 hq⟩
            case measure => simp [intOf]; omega
          | true =>
            have hp256 : inR xp 256 = true := by
              unfold lnok at hok
              simp only [if_true, Bool.and_eq_true] at hok
              exact hok.1.1.2
            have HLN := Lib.hid (fun W (h : MaR W vb (.slice Af m.t.fs.length cf) (.slice (some ⟨b, o, none⟩) m.c.ls.length cl) vo m) => l6Line_any vb (.slice Af m.t.fs.length cf) (.slice (some ⟨b, o, none⟩) m.c.ls.length cl) vo m xt xp xf xr xw W h h1 h3 hp256)
            clear hok hp256
            cases hln : lnM m ⟨true, xt, xp, xf, xr, xw⟩ with
            | true =>
              have HA := Lib.hid (all_step hall.out EX.out hln)
              rw [hln] at HLN
              clear hln
              go_wp2
              refine wp_region_ext (by kernel_rfl) (by kernel_rfl) ?_
              repeat (go_big_quiet_step ((go_at_call 116; exact ext_call (HLN.out _ (HM6.out.now (Ext.ok _))))))
              refine wpQuiet_nil ?_
              intro _ hw'
              obtain ⟨⟨wq, hq⟩, hw''⟩ := hw'
              subst hw''
              try dsimp only
              go_wp2
              go_roundw
              case rel => exact ⟨k + 1, by omega, by go_num, HA, bT hb6 hq⟩
              case measure => simp [intOf]; omega
            | false =>
              have HE : Hid (mav m = false) := mav_ln EX.out hln
              rw [hln] at HLN
              clear hln
              go_wp2
              refine wp_region_ext (by kernel_rfl) (by kernel_rfl) ?_
              repeat (go_big_quiet_step ((go_at_call 116; exact ext_call (HLN.out _ (HM6.out.now (Ext.ok _))))))
              refine wpQuiet_nil ?_
              intro _ hw'
              obtain ⟨⟨wq, hq⟩, hw''⟩ := hw'
              subst hw''
              try dsimp only
              go_wp2
              go_ret
              exact ⟨by rw [HE.out]; rfl, bT HB5.out (bT hb6 hq)⟩
        · obtain rfl : k = m.c.ls.length := by omega
          have HLA := Lib.hid (all_end hall.out)
          have HE : Hid (mav m = true) := mav_end h1 h2 h3 h4 HFA.out HLA.out
          go_wp2
          go_ret
          exact ⟨by rw [HE.out]; rfl, bT HB5.out hb6⟩
end Go.Proofs.YtnaagdmaggdbmaaGreatDoor
namespace Go.Proofs.YtnaagdmaggdbmaaGreatDoor
open Go.RowKit
set_option maxRecDepth 1000000
set_option maxHeartbeats 2000000 in
theorem l3Map_any (vb vf : Value) (t : Tab) (s p : Int) (fr : Nat) (r : Int) (w : World) (hT : TaR w vb vf t) (htv : tv t = true) (hk : kval (s, p) = true) (hf : fr < t.fs.length) :
    Calls Tryz.prog 191 #[.agg #[vb, vf], .agg #[.int .i64 s, .int .i64 p], .int .i64 fr, .int .i64 r] w (Post2 fun v w' => ∃ v1 v2, v = .agg #[v1, v2] ∧ TaM w.heap.size w' v1 v2 (mapT t s p fr r) ∧ Below w.heap.size w w') := by
  obtain ⟨⟨_, hfl, hb1, hbl⟩, _⟩ := tv_parts htv
  obtain ⟨hbk, heq⟩ := bkt_in hk hb1
  have ht0 := ((Own.new_ w 26 #[vb, vf]).alloc (o := .cells #[.int .i64 s, .int .i64 p] 36)).alloc (o := .cells #[.slice none 0 0, .slice none 0 0] 26)
  have hk0 := (Own.new_ (w.alloc (.cells #[vb, vf] 26)) 36 #[.int .i64 s, .int .i64 p]).alloc (o := .cells #[.slice none 0 0, .slice none 0 0] 26)
  have hr0 := Own.new_ ((w.alloc (.cells #[vb, vf] 26)).alloc (.cells #[.int .i64 s, .int .i64 p] 36)) 26 #[.slice none 0 0, .slice none 0 0]
  have hb0 : Below w.heap.size w (((w.alloc (.cells #[vb, vf] 26)).alloc (.cells #[.int .i64 s, .int .i64 p] 36)).alloc (.cells #[.slice none 0 0, .slice none 0 0] 26)) := bA (bA (bA bR))
  rw [show (w.alloc (.cells #[vb, vf] 26)).heap.size = w.heap.size + 1 by simp] at hk0
  rw [show ((w.alloc (.cells #[vb, vf] 26)).alloc (.cells #[.int .i64 s, .int .i64 p] 36)).heap.size = w.heap.size + 1 + 1 by simp] at hr0
  have hs0 : (((w.alloc (.cells #[vb, vf] 26)).alloc (.cells #[.int .i64 s, .int .i64 p] 36)).alloc (.cells #[.slice none 0 0, .slice none 0 0] 26)).heap.size = w.heap.size + 3 := by simp
  generalize hW : ((w.alloc (.cells #[vb, vf] 26)).alloc (.cells #[.int .i64 s, .int .i64 p] 36)).alloc (.cells #[.slice none 0 0, .slice none 0 0] 26) = W0 at ht0 hk0 hr0 hb0 hs0
  have HT0 := Lib.hid ht0
  have HK0 := Lib.hid hk0
  have HR0 := Lib.hid hr0
  have HB0 := Lib.hid hb0
  clear ht0 hk0 hr0 hb0
  have t00 := HT0.out.cell_ 0 (v := vb) rfl
  have t10 := HT0.out.cell_ 1 (v := vf) rfl
  have k00 := HK0.out.cell_ 0 (v := .int .i64 s) rfl
  have k10 := HK0.out.cell_ 1 (v := .int .i64 p) rfl
  have HTR := Lib.hid hT
  clear hT
  go_enter Tryz.func191, Tryz.ntmps191
  go_wp2_with fail
  refine (l3Copy_any vb vf t _ (HTR.out.now HB0.out) (by omega) (by omega)).mono ?_
  rintro e w1 ⟨_, rfl, v1, v2, rfl, hM1, hb1'⟩
  have HS1 : Hid (W0.heap.size ≤ w1.heap.size) := hb1'.size
  have hb1 := hb1'
  have HT1 := Lib.hid (HT0.out.below hb1)
  have HK1 := Lib.hid (HK0.out.below hb1)
  have HR1 := Lib.hid (HR0.out.below hb1)
  have HB1 := Lib.hid (bT HB0.out hb1)
  clear hb1
  have t01 := HT1.out.cell_ 0 rfl
  have t11 := HT1.out.cell_ 1 rfl
  have k01 := HK1.out.cell_ 0 (v := .int .i64 s) rfl
  have k11 := HK1.out.cell_ 1 (v := .int .i64 p) rfl
  have r01 := HR1.out.cell_ 0 (v := .slice none 0 0) rfl
  have r11 := HR1.out.cell_ 1 (v := .slice none 0 0) rfl
  have fr01 := HR1.out.free 0
  have fr11 := HR1.out.free 1
  clear t00 t10 k00 k10
  try clear r00 r10 fr00 fr10
  obtain ⟨Ab, cb, rfl, hbc, hbm, hB⟩ := HTR.out.b
  obtain ⟨g1, c1, g2, c2, rfl, rfl, e1, e2, l1, l2, hne, a1, a2, b1, b2, m1, m2⟩ := hM1.open_ (by omega) (by omega)
  have ho5 := Own.new_ w1 26 #[.slice (some ⟨g1, 0, none⟩) t.bs.length c1, .slice (some ⟨g2, 0, none⟩) t.fs.length c2]
  have hb5 : Below w1.heap.size w1 (w1.alloc (.cells #[.slice (some ⟨g1, 0, none⟩) t.bs.length c1, .slice (some ⟨g2, 0, none⟩) t.fs.length c2] 26)) := bA bR
  generalize hW5 : w1.alloc (.cells #[.slice (some ⟨g1, 0, none⟩) t.bs.length c1, .slice (some ⟨g2, 0, none⟩) t.fs.length c2] 26) = w5 at ho5 hb5
  have M1 := Lib.hid (m1.below hb5)
  have M2 := Lib.hid (m2.below hb5)
  have HT5 := Lib.hid (HT1.out.below hb5)
  have HK5 := Lib.hid (HK1.out.below hb5)
  have HR5 := Lib.hid (HR1.out.below hb5)
  have HB5 := Lib.hid (bT HB1.out hb5)
  clear hb5
  have t05 := HT5.out.cell_ 0 rfl
  have t15 := HT5.out.cell_ 1 rfl
  have k05 := HK5.out.cell_ 0 (v := .int .i64 s) rfl
  have k15 := HK5.out.cell_ 1 (v := .int .i64 p) rfl
  have r05 := HR5.out.cell_ 0 (v := .slice none 0 0) rfl
  have r15 := HR5.out.cell_ 1 (v := .slice none 0 0) rfl
  have fr05 := HR5.out.free 0
  have fr15 := HR5.out.free 1
  clear t01 t11 k01 k11
  try clear r01 r11 fr01 fr11
  have o50 := ho5.cell_ 0 (v := .slice (some ⟨g1, 0, none⟩) t.bs.length c1) rfl
  have o51 := ho5.cell_ 1 (v := .slice (some ⟨g2, 0, none⟩) t.fs.length c2) rfl
  have HO5 := Lib.hid ho5
  clear hM1 ho5 m1 m2 hb1' hB
  go_wp2_with fail
  refine (l2Hash_any s p t.bs.length _ hk ⟨by omega, by omega⟩).mono ?_
  rintro e w6 ⟨rfl, hb6⟩
  rw [heq]
  have O6 := HO5.out.below hb6
  have M16 := M1.out.below hb6
  have M26 := M2.out.below hb6
  have HT6 := Lib.hid (HT5.out.below hb6)
  have HK6 := Lib.hid (HK5.out.below hb6)
  have HR6 := Lib.hid (HR5.out.below hb6)
  have HB6 := Lib.hid (bT HB5.out hb6)
  clear hb6
  have t06 := HT6.out.cell_ 0 rfl
  have t16 := HT6.out.cell_ 1 rfl
  have k06 := HK6.out.cell_ 0 (v := .int .i64 s) rfl
  have k16 := HK6.out.cell_ 1 (v := .int .i64 p) rfl
  have r06 := HR6.out.cell_ 0 (v := .slice none 0 0) rfl
  have r16 := HR6.out.cell_ 1 (v := .slice none 0 0) rfl
  have fr06 := HR6.out.free 0
  have fr16 := HR6.out.free 1
  clear t05 t15 k05 k15
  try clear r05 r15 fr05 fr15
  clear o50 o51
  have hmt : mapT t s p fr r = ⟨t.bs.set (bkt t s p) fr, t.fs.set fr ⟨true, s, p, r, t.bs.getD (bkt t s p) 0⟩⟩ := by
    unfold mapT
    rw [Int.toNat_natCast]
  generalize hbb : bkt t s p = b at *
  obtain ⟨n, en⟩ : ∃ n, t.bs[b]? = some n := ⟨_, List.getElem?_eq_getElem hbk⟩
  rw [List.getD_eq_getElem?_getD, en, Option.getD_some] at hmt
  obtain ⟨b', o', e3, _, d0⟩ := M16.is.i1 en
  injection e3 with e3
  injection e3 with e3 e4
  subst e3 e4
  rw [Nat.zero_add] at d0
  obtain ⟨f, ef⟩ : ∃ f, t.fs[fr]? = some f := ⟨_, List.getElem?_eq_getElem hf⟩
  obtain ⟨b', o', e3, _, y0, y1, y2, y3, y4⟩ := M26.is.fr ef
  injection e3 with e3
  injection e3 with e3 e4
  subst e3 e4
  rw [Nat.zero_add] at y0 y1 y2 y3 y4
  obtain ⟨_, cs1, u1, _, O1, S1⟩ := M16.own (by omega)
  injection u1 with u1
  injection u1 with u1
  subst u1
  obtain ⟨_, cs2, u2, _, O2, S2⟩ := M26.own (by omega)
  injection u2 with u2
  injection u2 with u2
  subst u2
  have z2 := O1.free b
  have z3 := O2.free (fr * 5)
  have z4 := O2.free (fr * 5 + 1)
  have z5 := O2.free (fr * 5 + 2)
  have z6 := O2.free (fr * 5 + 3)
  have z7 := O2.free (fr * 5 + 4)
  have HM1 := Lib.hid M16
  have HM2 := Lib.hid M26
  have HMT := Lib.hid hmt
  have p0 := O6.cell_ 0 (v := .slice (some ⟨g1, 0, none⟩) t.bs.length c1) rfl
  have p1 := O6.cell_ 1 (v := .slice (some ⟨g2, 0, none⟩) t.fs.length c2) rfl
  have HO6 := Lib.hid O6
  have hol := O6.lt
  clear M16 M26 O1 O2 S1 S2 O6 en ef hmt
  have hg1 : w.heap.size + 3 ≤ g1 := by omega
  have hg2 : w.heap.size + 3 ≤ g2 := by omega
  have hw1 : w.heap.size + 3 ≤ w1.heap.size := by have := HS1.out; omega
  go_wp2
  have q1 : g2 ≠ w1.heap.size := by omega
  have q2 : w1.heap.size ≠ g2 := by omega
  have q3 : g2 ≠ w.heap.size + 1 := by omega
  have q4 : w.heap.size + 1 ≠ g2 := by omega
  have q5 : g2 ≠ g1 := fun h => hne h.symm
  go_region_held_law (fun w' => w'.cell? ⟨w1.heap.size, 0, none⟩ = some (.slice (some ⟨g1, 0, none⟩) t.bs.length c1) ∧ w'.cell? ⟨w1.heap.size, 1, none⟩ = some (.slice (some ⟨g2, 0, none⟩) t.fs.length c2) ∧ w'.cell? ⟨w.heap.size + 1, 0, none⟩ = some (.int .i64 s) ∧ w'.cell? ⟨w.heap.size + 1, 1, none⟩ = some (.int .i64 p) ∧ w'.cell? ⟨g1, b, none⟩ = some (.int .i64 n)) (go_keep) (fail)
  all_goals
    clear y0 y1 y2 y3 y4 z3 z4 z5 z6 z7
    have M3 := (HM2.out.wfr hf ⟨true, s, p, r, n⟩).other (p := ⟨g1, b, none⟩) (u := .int .i64 fr) hne
    have M4 := (((((HM1.out.other (p := ⟨g2, fr * 5, none⟩) (u := .bool true) hne.symm).other (p := ⟨g2, fr * 5 + 1, none⟩) (u := .int .i64 s) hne.symm).other (p := ⟨g2, fr * 5 + 2, none⟩) (u := .int .i64 p) hne.symm).other (p := ⟨g2, fr * 5 + 3, none⟩) (u := .int .i64 r) hne.symm).other (p := ⟨g2, fr * 5 + 4, none⟩) (u := .int .i64 n) hne.symm).wint hbk fr
    have HM3 := Lib.hid M3
    have HM4 := Lib.hid M4
    clear M3 M4
    have q6 : g1 ≠ w1.heap.size := by omega
    have q7 : w1.heap.size ≠ g1 := by omega
    have q8 : g1 ≠ w.heap.size + 1 + 1 := by omega
    have q9 : w.heap.size + 1 + 1 ≠ g1 := by omega
    have q10 : g2 ≠ w.heap.size + 1 + 1 := by omega
    have q11 : w.heap.size + 1 + 1 ≠ g2 := by omega
    go_wp2
    have o3 := ((((((((HR6.out.far (p := ⟨g2, fr * 5, none⟩) (u := .bool true) q11).far (p := ⟨g2, fr * 5 + 1, none⟩) (u := .int .i64 s) q11).far (p := ⟨g2, fr * 5 + 2, none⟩) (u := .int .i64 p) q11).far (p := ⟨g2, fr * 5 + 3, none⟩) (u := .int .i64 r) q11).far (p := ⟨g2, fr * 5 + 4, none⟩) (u := .int .i64 n) q11).far (p := ⟨g1, b, none⟩) (u := .int .i64 fr) q9).set_ 0 (.slice (some ⟨g1, 0, none⟩) t.bs.length c1)).set_ 1 (.slice (some ⟨g2, 0, none⟩) t.fs.length c2)).drew
    have e0 := o3.cell_ 0 (v := .slice (some ⟨g1, 0, none⟩) t.bs.length c1) rfl
    have e1 := o3.cell_ 1 (v := .slice (some ⟨g2, 0, none⟩) t.fs.length c2) rfl
    have hlt2 : w.heap.size + 1 + 1 < W0.heap.size := by omega
    have N3 := ((HM3.out.far (p := ⟨w.heap.size + 1 + 1, 0, none⟩) (u := .slice (some ⟨g1, 0, none⟩) t.bs.length c1) hlt2).far (p := ⟨w.heap.size + 1 + 1, 1, none⟩) (u := .slice (some ⟨g2, 0, none⟩) t.fs.length c2) hlt2).mono (B' := w.heap.size) (by omega)
    have N4 := ((HM4.out.far (p := ⟨w.heap.size + 1 + 1, 0, none⟩) (u := .slice (some ⟨g1, 0, none⟩) t.bs.length c1) hlt2).far (p := ⟨w.heap.size + 1 + 1, 1, none⟩) (u := .slice (some ⟨g2, 0, none⟩) t.fs.length c2) hlt2).mono (B' := w.heap.size) (by omega)
    refine bodyPost_ret (v := .agg #[.slice (some ⟨g1, 0, none⟩) t.bs.length c1, .slice (some ⟨g2, 0, none⟩) t.fs.length c2]) (by simp [results, Tryz.results191, go_sem, e0, e1]) rfl ⟨_, rfl, _, _, rfl, ?_, ?_⟩
    · rw [HMT.out]
      exact ⟨slm_of (by simp) (by simpa using a1) a2 (N4.below (bD bR)), slm_of (by simp) (by simpa using b1) b2 (N3.below (bD bR))⟩
    · refine bD ?_
      repeat (refine bS ?_ (by simp <;> omega))
      exact HB6.out
set_option maxHeartbeats 2000000 in
theorem sMapPage_any (vb vf : Value) (t : Tab) (s p fr r : Int) (w : World) (hT : TaR w vb vf t) :
    Calls Tryz.prog 121 #[.agg #[vb, vf], .agg #[.int .i64 s, .int .i64 p], .int .i64 fr, .int .i64 r] w (Post2 fun v w' => ∃ v1 v2, v = .tuple #[.agg #[v1, v2], .bool (mapOK t s p fr r)] ∧ TaM w.heap.size w' v1 v2 (mapV t s p fr r) ∧ Below w.heap.size w w') := by
  have ht0 := ((Own.new_ w 26 #[vb, vf]).alloc (o := .cells #[.int .i64 s, .int .i64 p] 36)).alloc (o := .cells #[.slice none 0 0, .slice none 0 0] 26)
  have hk0 := (Own.new_ (w.alloc (.cells #[vb, vf] 26)) 36 #[.int .i64 s, .int .i64 p]).alloc (o := .cells #[.slice none 0 0, .slice none 0 0] 26)
  have hr0 := Own.new_ ((w.alloc (.cells #[vb, vf] 26)).alloc (.cells #[.int .i64 s, .int .i64 p] 36)) 26 #[.slice none 0 0, .slice none 0 0]
  have hb0 : Below w.heap.size w (((w.alloc (.cells #[vb, vf] 26)).alloc (.cells #[.int .i64 s, .int .i64 p] 36)).alloc (.cells #[.slice none 0 0, .slice none 0 0] 26)) := bA (bA (bA bR))
  rw [show (w.alloc (.cells #[vb, vf] 26)).heap.size = w.heap.size + 1 by simp] at hk0
  rw [show ((w.alloc (.cells #[vb, vf] 26)).alloc (.cells #[.int .i64 s, .int .i64 p] 36)).heap.size = w.heap.size + 1 + 1 by simp] at hr0
  have hs0 : (((w.alloc (.cells #[vb, vf] 26)).alloc (.cells #[.int .i64 s, .int .i64 p] 36)).alloc (.cells #[.slice none 0 0, .slice none 0 0] 26)).heap.size = w.heap.size + 3 := by simp
  generalize hW : ((w.alloc (.cells #[vb, vf] 26)).alloc (.cells #[.int .i64 s, .int .i64 p] 36)).alloc (.cells #[.slice none 0 0, .slice none 0 0] 26) = W0 at ht0 hk0 hr0 hb0 hs0
  have HT0 := Lib.hid ht0
  have HK0 := Lib.hid hk0
  have HR0 := Lib.hid hr0
  have HB0 := Lib.hid hb0
  clear ht0 hk0 hr0 hb0
  have t00 := HT0.out.cell_ 0 (v := vb) rfl
  have t10 := HT0.out.cell_ 1 (v := vf) rfl
  have k00 := HK0.out.cell_ 0 (v := .int .i64 s) rfl
  have k10 := HK0.out.cell_ 1 (v := .int .i64 p) rfl
  have HTR := Lib.hid hT
  clear hT
  go_enter Tryz.func121, Tryz.ntmps121
  go_wp2_with fail
  refine (sTableValid_any vb vf t _ (HTR.out.now HB0.out)).mono ?_
  rintro e w1 ⟨rfl, hb1⟩
  have HT1 := Lib.hid (HT0.out.below hb1)
  have HK1 := Lib.hid (HK0.out.below hb1)
  have HR1 := Lib.hid (HR0.out.below hb1)
  have HB1 := Lib.hid (bT HB0.out hb1)
  clear hb1
  have t01 := HT1.out.cell_ 0 rfl
  have t11 := HT1.out.cell_ 1 rfl
  have k01 := HK1.out.cell_ 0 (v := .int .i64 s) rfl
  have k11 := HK1.out.cell_ 1 (v := .int .i64 p) rfl
  have r01 := HR1.out.cell_ 0 (v := .slice none 0 0) rfl
  have r11 := HR1.out.cell_ 1 (v := .slice none 0 0) rfl
  have fr01 := HR1.out.free 0
  have fr11 := HR1.out.free 1
  clear t00 t10 k00 k10
  try clear r00 r10 fr00 fr10
  cases h1 : tv t with
  | false =>
    have HA : Hid (mapOK t s p fr r = false) := by show _ = _; unfold mapOK; rw [h1]; rfl
    have HV := Lib.hid (mapOK_false HA.out)
    go_wp2
    have o3 := (HR1.out.set_ 0 (.slice none 0 0)).set_ 1 (.slice none 0 0)
    have e0 := o3.cell_ 0 (v := .slice none 0 0) rfl
    have e1 := o3.cell_ 1 (v := .slice none 0 0) rfl
    refine bodyPost_ret (v := .tuple #[.agg #[.slice none 0 0, .slice none 0 0], .bool false]) (by simp [results, Tryz.results121, go_sem, e0, e1]) rfl ⟨_, rfl, _, _, by rw [HA.out], ?_, bS (bS HB1.out (by simp; omega)) (by simp; omega)⟩
    rw [HV.out]
    exact tam_z
  | true =>
  go_wp2_with fail
  refine (sKeyValid_any _ _ _).mono ?_
  rintro e w2 ⟨rfl, hb2⟩
  have HT2 := Lib.hid (HT1.out.below hb2)
  have HK2 := Lib.hid (HK1.out.below hb2)
  have HR2 := Lib.hid (HR1.out.below hb2)
  have HB2 := Lib.hid (bT HB1.out hb2)
  clear hb2
  have t02 := HT2.out.cell_ 0 rfl
  have t12 := HT2.out.cell_ 1 rfl
  have k02 := HK2.out.cell_ 0 (v := .int .i64 s) rfl
  have k12 := HK2.out.cell_ 1 (v := .int .i64 p) rfl
  have r02 := HR2.out.cell_ 0 (v := .slice none 0 0) rfl
  have r12 := HR2.out.cell_ 1 (v := .slice none 0 0) rfl
  have fr02 := HR2.out.free 0
  have fr12 := HR2.out.free 1
  clear t01 t11 k01 k11
  try clear r01 r11 fr01 fr11
  cases h2 : kval (s, p) with
  | false =>
    have HA : Hid (mapOK t s p fr r = false) := by show _ = _; unfold mapOK; rw [h1, h2]; rfl
    have HV := Lib.hid (mapOK_false HA.out)
    go_wp2
    have o3 := (HR2.out.set_ 0 (.slice none 0 0)).set_ 1 (.slice none 0 0)
    have e0 := o3.cell_ 0 (v := .slice none 0 0) rfl
    have e1 := o3.cell_ 1 (v := .slice none 0 0) rfl
    refine bodyPost_ret (v := .tuple #[.agg #[.slice none 0 0, .slice none 0 0], .bool false]) (by simp [results, Tryz.results121, go_sem, e0, e1]) rfl ⟨_, rfl, _, _, by rw [HA.out], ?_, bS (bS HB2.out (by simp; omega)) (by simp; omega)⟩
    rw [HV.out]
    exact tam_z
  | true =>
  cases h8 : inR r 8 with
  | false =>
    have HA : Hid (mapOK t s p fr r = false) := by show _ = _; unfold mapOK; rw [h8]; simp
    have HV := Lib.hid (mapOK_false HA.out)
    go_wp2_with fail
    refine (sRightsValid_any _ _).mono ?_
    rintro e w' ⟨rfl, rfl⟩
    rw [h8]
    go_wp2
    have o3 := (HR2.out.set_ 0 (.slice none 0 0)).set_ 1 (.slice none 0 0)
    have e0 := o3.cell_ 0 (v := .slice none 0 0) rfl
    have e1 := o3.cell_ 1 (v := .slice none 0 0) rfl
    refine bodyPost_ret (v := .tuple #[.agg #[.slice none 0 0, .slice none 0 0], .bool false]) (by simp [results, Tryz.results121, go_sem, e0, e1]) rfl ⟨_, rfl, _, _, by rw [HA.out], ?_, bS (bS HB2.out (by simp; omega)) (by simp; omega)⟩
    rw [HV.out]
    exact tam_z
  | true =>
  go_wp2_with fail
  refine (sRightsValid_any _ _).mono ?_
  rintro e w' ⟨rfl, rfl⟩
  rw [h8]
  obtain ⟨Af, cf, rfl, hfc, hfm, hF⟩ := HTR.out.f
  obtain ⟨⟨_, hlen, hb1', hlen2⟩, _⟩ := tv_parts h1
  by_cases g1 : fr < 0
  · have HA : Hid (mapOK t s p fr r = false) := by show _ = _; unfold mapOK; rw [inR_no (show ¬ (0 ≤ fr ∧ fr < t.fs.length) by omega)]; simp
    have HV := Lib.hid (mapOK_false HA.out)
    go_wp2
    have o3 := (HR2.out.set_ 0 (.slice none 0 0)).set_ 1 (.slice none 0 0)
    have e0 := o3.cell_ 0 (v := .slice none 0 0) rfl
    have e1 := o3.cell_ 1 (v := .slice none 0 0) rfl
    refine bodyPost_ret (v := .tuple #[.agg #[.slice none 0 0, .slice none 0 0], .bool false]) (by simp [results, Tryz.results121, go_sem, e0, e1]) rfl ⟨_, rfl, _, _, by rw [HA.out], ?_, bS (bS HB2.out (by simp; omega)) (by simp; omega)⟩
    rw [HV.out]
    exact tam_z
  by_cases g2 : (t.fs.length : Int) ≤ fr
  · have HA : Hid (mapOK t s p fr r = false) := by show _ = _; unfold mapOK; rw [inR_no (show ¬ (0 ≤ fr ∧ fr < t.fs.length) by omega)]; simp
    have HV := Lib.hid (mapOK_false HA.out)
    go_wp2
    have o3 := (HR2.out.set_ 0 (.slice none 0 0)).set_ 1 (.slice none 0 0)
    have e0 := o3.cell_ 0 (v := .slice none 0 0) rfl
    have e1 := o3.cell_ 1 (v := .slice none 0 0) rfl
    refine bodyPost_ret (v := .tuple #[.agg #[.slice none 0 0, .slice none 0 0], .bool false]) (by simp [results, Tryz.results121, go_sem, e0, e1]) rfl ⟨_, rfl, _, _, by rw [HA.out], ?_, bS (bS HB2.out (by simp; omega)) (by simp; omega)⟩
    rw [HV.out]
    exact tam_z
  obtain ⟨k, rfl⟩ := Int.eq_ofNat_of_zero_le (show 0 ≤ fr by omega)
  have hk : k < t.fs.length := by omega
  have h4 : inR (k : Int) t.fs.length = true := inR_iff.2 (by omega)
  obtain ⟨f, ef⟩ : ∃ f, t.fs[k]? = some f := ⟨_, List.getElem?_eq_getElem hk⟩
  obtain ⟨b4, o4, rfl, hb4, d0, d1, d2, d3, d4⟩ := (hF.now (Nat.le_refl _) HB2.out).fr ef
  clear d1 d2 d3 d4 hF
  cases h7 : f.used with
  | true =>
    rw [h7] at d0
    have HA : Hid (mapOK t s p k r = false) := by show _ = _; unfold mapOK; rw [Int.toNat_natCast, ef]; simp [h7]
    have HV := Lib.hid (mapOK_false HA.out)
    clear ef h4
    go_wp2
    have o3 := (HR2.out.set_ 0 (.slice none 0 0)).set_ 1 (.slice none 0 0)
    have e0 := o3.cell_ 0 (v := .slice none 0 0) rfl
    have e1 := o3.cell_ 1 (v := .slice none 0 0) rfl
    refine bodyPost_ret (v := .tuple #[.agg #[.slice none 0 0, .slice none 0 0], .bool false]) (by simp [results, Tryz.results121, go_sem, e0, e1]) rfl ⟨_, rfl, _, _, by rw [HA.out], ?_, bS (bS HB2.out (by simp; omega)) (by simp; omega)⟩
    rw [HV.out]
    exact tam_z
  | false =>
  rw [h7] at d0
  go_wp2_with fail
  refine (l3Find_any vb _ t s p _ (HTR.out.now HB2.out) h1 h2).mono ?_
  rintro e w3 ⟨stp, rfl, hb3⟩
  have HT3 := Lib.hid (HT2.out.below hb3)
  have HK3 := Lib.hid (HK2.out.below hb3)
  have HR3 := Lib.hid (HR2.out.below hb3)
  have HB3 := Lib.hid (bT HB2.out hb3)
  clear hb3
  have t03 := HT3.out.cell_ 0 rfl
  have t13 := HT3.out.cell_ 1 rfl
  have k03 := HK3.out.cell_ 0 (v := .int .i64 s) rfl
  have k13 := HK3.out.cell_ 1 (v := .int .i64 p) rfl
  have r03 := HR3.out.cell_ 0 (v := .slice none 0 0) rfl
  have r13 := HR3.out.cell_ 1 (v := .slice none 0 0) rfl
  have fr03 := HR3.out.free 0
  have fr13 := HR3.out.free 1
  clear t02 t12 k02 k12
  try clear r02 r12 fr02 fr12
  by_cases h3 : 0 ≤ fndI t.fs s p
  · have HA : Hid (mapOK t s p k r = false) := by show _ = _; unfold mapOK; rw [h1, h2, decide_eq_true h3]; rfl
    have HV := Lib.hid (mapOK_false HA.out)
    clear ef h4 d0
    go_wp2
    have o3 := (HR3.out.set_ 0 (.slice none 0 0)).set_ 1 (.slice none 0 0)
    have e0 := o3.cell_ 0 (v := .slice none 0 0) rfl
    have e1 := o3.cell_ 1 (v := .slice none 0 0) rfl
    refine bodyPost_ret (v := .tuple #[.agg #[.slice none 0 0, .slice none 0 0], .bool false]) (by simp [results, Tryz.results121, go_sem, e0, e1]) rfl ⟨_, rfl, _, _, by rw [HA.out], ?_, bS (bS HB3.out (by simp; omega)) (by simp; omega)⟩
    rw [HV.out]
    exact tam_z
  have HA : Hid (mapOK t s p k r = true) := by show _ = _; unfold mapOK; rw [h1, h2, decide_eq_false h3, h4, Int.toNat_natCast, ef, h8]; simp [h7]
  have HV : Hid (mapV t s p k r = mapT t s p k r) := by show _ = _; unfold mapV; rw [HA.out]; rfl
  have h3b : fndI t.fs s p < 0 := by omega
  clear ef h4 d0
  go_wp2_with fail
  refine (l3Map_any vb _ t s p k r _ (HTR.out.now HB3.out) h1 h2 hk).mono ?_
  rintro e w4 ⟨_, rfl, v1, v2, rfl, hM4, hb4'⟩
  have hb4 := hb4'
  have hs4 : w.heap.size + 1 + 1 < w3.heap.size := HR3.out.lt
  have HT4 := Lib.hid (HT3.out.below hb4)
  have HK4 := Lib.hid (HK3.out.below hb4)
  have HR4 := Lib.hid (HR3.out.below hb4)
  have HB4 := Lib.hid (bT HB3.out hb4)
  clear hb4
  have t04 := HT4.out.cell_ 0 rfl
  have t14 := HT4.out.cell_ 1 rfl
  have k04 := HK4.out.cell_ 0 (v := .int .i64 s) rfl
  have k14 := HK4.out.cell_ 1 (v := .int .i64 p) rfl
  have r04 := HR4.out.cell_ 0 (v := .slice none 0 0) rfl
  have r14 := HR4.out.cell_ 1 (v := .slice none 0 0) rfl
  have fr04 := HR4.out.free 0
  have fr14 := HR4.out.free 1
  clear t03 t13 k03 k13
  try clear r03 r13 fr03 fr13
  obtain ⟨A1, c1, rfl, _⟩ := hM4.b
  obtain ⟨A2, c2, rfl, _⟩ := hM4.f
  have hbl : (mapT t s p k r).bs.length = t.bs.length := by simp [mapT]
  have hfl : (mapT t s p k r).fs.length = t.fs.length := by simp [mapT]
  rw [hbl, hfl] at hM4 ⊢
  have HM4 := Lib.hid hM4
  have hsz3 := HB3.out.size
  clear hM4 hb4'
  go_wp2
  have o3 := (HR4.out.set_ 0 (.slice A1 t.bs.length c1)).set_ 1 (.slice A2 t.fs.length c2)
  have e0 := o3.cell_ 0 (v := .slice A1 t.bs.length c1) rfl
  have e1 := o3.cell_ 1 (v := .slice A2 t.fs.length c2) rfl
  have M7 := ((HM4.out.far (p := ⟨w.heap.size + 1 + 1, 0, none⟩) (u := .slice A1 t.bs.length c1) hs4).far (p := ⟨w.heap.size + 1 + 1, 1, none⟩) (u := .slice A2 t.fs.length c2) hs4).mono (B' := w.heap.size) hsz3
  refine bodyPost_ret (v := .tuple #[.agg #[.slice A1 t.bs.length c1, .slice A2 t.fs.length c2], .bool true]) (by simp [results, Tryz.results121, go_sem, e0, e1]) rfl ⟨_, rfl, _, _, by rw [HA.out], ?_, bS (bS HB4.out (by simp; omega)) (by simp; omega)⟩
  rw [HV.out]
  exact M7
end Go.Proofs.YtnaagdmaggdbmaaGreatDoor
namespace Go.Proofs.YtnaagdmaggdbmaaGreatDoor
open Go.RowKit
set_option maxRecDepth 1000000
set_option maxHeartbeats 1000000 in
theorem l6Shared_any (s p : Int) (w : World) : Calls Tryz.prog 120 #[.agg #[.int .i64 s, .int .i64 p]] w fun r w' => r = .returned (.bool (kval (s, p) && decide (keyI s p = s))) ∧ Below w.heap.size w w' := by
  have hbx := Own.new_ w 36 #[.int .i64 s, .int .i64 p]
  have hb0 : Below w.heap.size w (w.alloc (.cells #[.int .i64 s, .int .i64 p] 36)) := bA bR
  generalize hW : w.alloc (.cells #[.int .i64 s, .int .i64 p] 36) = W0 at hbx hb0
  have y0 := xcell (hbx.cell_ 0 (v := .int .i64 s) rfl) hbx.lt
  have y1 := xcell (hbx.cell_ 1 (v := .int .i64 p) rfl) hbx.lt
  have HKV := Lib.hid (sKeyValid_any s p)
  have HKF := Lib.hid (sKeyFor_any s p)
  have he := fun W => eql_key (keyI s p) p s p W
  clear hbx
  cases h1 : kval (s, p) with
  | false =>
    rw [h1] at HKV
    go_enter Tryz.func120, Tryz.ntmps120
    go_wp2
    refine wp_region_ext (by kernel_rfl) (by kernel_rfl) ?_
    repeat (go_big_quiet_step ((go_at_call 190; exact ext_call (HKV.out _))))
    refine wpQuiet_nil ?_
    intro _ hw'
    obtain ⟨⟨wq, hq⟩, hw''⟩ := hw'
    subst hw''
    try dsimp only
    go_wp2
    go_ret
    exact ⟨rfl, bT hb0 hq⟩
  | true =>
    rw [h1] at HKV
    by_cases h2 : keyI s p = s
    · have hkq : keq (keyI s p) p s p = true := by unfold keq; rw [h2]; simp
      rw [hkq] at he
      have HD : Hid (decide (keyI s p = s) = true) := decide_eq_true h2
      generalize hk : keyI s p = ks at *
      go_enter Tryz.func120, Tryz.ntmps120
      go_wp2
      refine wp_region_ext (by kernel_rfl) (by kernel_rfl) ?_
      repeat (go_big_quiet_step ((first | (go_at_call 190; exact ext_call (HKV.out _)) | (go_at_call 49; exact ext_call (HKF.out _)))))
      refine wpQuiet_nil ?_
      intro _ hw'
      obtain ⟨⟨wq, hq⟩, hw''⟩ := hw'
      subst hw''
      try dsimp only
      go_wp2
      go_ret
      exact ⟨by rw [HD.out]; rfl, bT hb0 hq⟩
    · have hkq : keq (keyI s p) p s p = false := by unfold keq; simp [h2]
      rw [hkq] at he
      have HD : Hid (decide (keyI s p = s) = false) := decide_eq_false h2
      generalize hk : keyI s p = ks at *
      go_enter Tryz.func120, Tryz.ntmps120
      go_wp2
      refine wp_region_ext (by kernel_rfl) (by kernel_rfl) ?_
      repeat (go_big_quiet_step ((first | (go_at_call 190; exact ext_call (HKV.out _)) | (go_at_call 49; exact ext_call (HKF.out _)))))
      refine wpQuiet_nil ?_
      intro _ hw'
      obtain ⟨⟨wq, hq⟩, hw''⟩ := hw'
      subst hw''
      try dsimp only
      go_wp2
      go_ret
      exact ⟨by rw [HD.out]; rfl, bT hb0 hq⟩
set_option maxHeartbeats 2000000 in
theorem sPutPage_any (vb vf vl vo : Value) (m : Ma) (s p fr r : Int) (w : World) (hM : MaR w vb vf vl vo m) :
    Calls Tryz.prog 55 #[.agg #[vb, vf, vl, .int .i64 m.c.hand, .int .i64 m.g.count, .int .i64 m.g.next, .int .i64 m.g.round, vo, .int .i64 m.sp], .agg #[.int .i64 s, .int .i64 p], .int .i64 fr, .int .i64 r] w (Post2 fun v w' => ∃ v1 v2 v3 v4, v = .tuple #[.agg #[v1, v2, v3, .int .i64 (putV m s p fr r).c.hand, .int .i64 (putV m s p fr r).g.count, .int .i64 (putV m s p fr r).g.next, .int .i64 (putV m s p fr r).g.round, v4, .int .i64 (putV m s p fr r).sp], .bool (putOK m s p fr r)] ∧ MaM w.heap.size w' v1 v2 v3 v4 (putV m s p fr r) ∧ Below w.heap.size w w') := by
  have hbx := ((Own.new_ w 34 #[vb, vf, vl, .int .i64 m.c.hand, .int .i64 m.g.count, .int .i64 m.g.next, .int .i64 m.g.round, vo, .int .i64 m.sp]).alloc (o := .cells #[.int .i64 s, .int .i64 p] 36)).alloc (o := .cells #[.slice none 0 0, .slice none 0 0, .slice none 0 0, .int .i64 0, .int .i64 0, .int .i64 0, .int .i64 0, .slice none 0 0, .int .i64 0] 34)
  have hbk := (ownAt (W := w.alloc (.cells #[vb, vf, vl, .int .i64 m.c.hand, .int .i64 m.g.count, .int .i64 m.g.next, .int .i64 m.g.round, vo, .int .i64 m.sp] 34)) (g := w.heap.size + 1) (t := 36) (cs := #[.int .i64 s, .int .i64 p]) (by simp)).alloc (o := .cells #[.slice none 0 0, .slice none 0 0, .slice none 0 0, .int .i64 0, .int .i64 0, .int .i64 0, .int .i64 0, .slice none 0 0, .int .i64 0] 34)
  have hbo := ownAt (W := (w.alloc (.cells #[vb, vf, vl, .int .i64 m.c.hand, .int .i64 m.g.count, .int .i64 m.g.next, .int .i64 m.g.round, vo, .int .i64 m.sp] 34)).alloc (.cells #[.int .i64 s, .int .i64 p] 36)) (g := w.heap.size + 1 + 1) (t := 34) (cs := #[.slice none 0 0, .slice none 0 0, .slice none 0 0, .int .i64 0, .int .i64 0, .int .i64 0, .int .i64 0, .slice none 0 0, .int .i64 0]) (by simp)
  have hb0 : Below w.heap.size w (((w.alloc (.cells #[vb, vf, vl, .int .i64 m.c.hand, .int .i64 m.g.count, .int .i64 m.g.next, .int .i64 m.g.round, vo, .int .i64 m.sp] 34)).alloc (.cells #[.int .i64 s, .int .i64 p] 36)).alloc (.cells #[.slice none 0 0, .slice none 0 0, .slice none 0 0, .int .i64 0, .int .i64 0, .int .i64 0, .int .i64 0, .slice none 0 0, .int .i64 0] 34)) := bA (bA (bA bR))
  have hs0 : (((w.alloc (.cells #[vb, vf, vl, .int .i64 m.c.hand, .int .i64 m.g.count, .int .i64 m.g.next, .int .i64 m.g.round, vo, .int .i64 m.sp] 34)).alloc (.cells #[.int .i64 s, .int .i64 p] 36)).alloc (.cells #[.slice none 0 0, .slice none 0 0, .slice none 0 0, .int .i64 0, .int .i64 0, .int .i64 0, .int .i64 0, .slice none 0 0, .int .i64 0] 34)).heap.size = w.heap.size + 3 := by simp
  generalize hW : ((w.alloc (.cells #[vb, vf, vl, .int .i64 m.c.hand, .int .i64 m.g.count, .int .i64 m.g.next, .int .i64 m.g.round, vo, .int .i64 m.sp] 34)).alloc (.cells #[.int .i64 s, .int .i64 p] 36)).alloc (.cells #[.slice none 0 0, .slice none 0 0, .slice none 0 0, .int .i64 0, .int .i64 0, .int .i64 0, .int .i64 0, .slice none 0 0, .int .i64 0] 34) = W0 at hbx hbk hbo hb0 hs0
  have HX0 := Lib.hid hbx
  have HK0 := Lib.hid hbk
  have HR0 := Lib.hid hbo
  have HB0 := Lib.hid hb0
  have HS0 : Hid (w.heap.size + 3 ≤ W0.heap.size) := Nat.le_of_eq hs0.symm
  clear hbx hbk hbo hb0
  have HM := Lib.hid hM
  clear hM
  have m00 := HX0.out.cell_ 0 (v := vb) rfl
  have m10 := HX0.out.cell_ 1 (v := vf) rfl
  have m20 := HX0.out.cell_ 2 (v := vl) rfl
  have m30 := HX0.out.cell_ 3 (v := .int .i64 m.c.hand) rfl
  have m40 := HX0.out.cell_ 4 (v := .int .i64 m.g.count) rfl
  have m50 := HX0.out.cell_ 5 (v := .int .i64 m.g.next) rfl
  have m60 := HX0.out.cell_ 6 (v := .int .i64 m.g.round) rfl
  have m70 := HX0.out.cell_ 7 (v := vo) rfl
  have m80 := HX0.out.cell_ 8 (v := .int .i64 m.sp) rfl
  go_enter Tryz.func55, Tryz.ntmps55
  go_wp2_with fail
  refine (sMachineValid_any vb vf vl vo m _ (HM.out.now HB0.out)).mono ?_
  rintro e w7 ⟨rfl, hb7⟩
  have HX7 := Lib.hid (HX0.out.below hb7)
  have HK7 := Lib.hid (HK0.out.below hb7)
  have HR7 := Lib.hid (HR0.out.below hb7)
  have HB7 := Lib.hid (bT HB0.out hb7)
  have HS7 := Lib.hid (Nat.le_trans HS0.out hb7.size)
  clear hb7
  clear m00 m10 m20 m30 m40 m50 m60 m70 m80
  cases h1 : mav m with
  | false =>
    have HA : Hid (putOK m s p fr r = false) := by show _ = _; unfold putOK; rw [h1]; rfl
    have HV := Lib.hid (putOK_false HA.out)
    have r0x := HR7.out.cell_ 0 (v := .slice none 0 0) rfl
    have r1x := HR7.out.cell_ 1 (v := .slice none 0 0) rfl
    have r2x := HR7.out.cell_ 2 (v := .slice none 0 0) rfl
    have r3x := HR7.out.cell_ 3 (v := .int .i64 0) rfl
    have r4x := HR7.out.cell_ 4 (v := .int .i64 0) rfl
    have r5x := HR7.out.cell_ 5 (v := .int .i64 0) rfl
    have r6x := HR7.out.cell_ 6 (v := .int .i64 0) rfl
    have r7x := HR7.out.cell_ 7 (v := .slice none 0 0) rfl
    have r8x := HR7.out.cell_ 8 (v := .int .i64 0) rfl
    have z0x := HR7.out.free 0
    have z1x := HR7.out.free 1
    have z2x := HR7.out.free 2
    have z3x := HR7.out.free 3
    have z4x := HR7.out.free 4
    have z5x := HR7.out.free 5
    have z6x := HR7.out.free 6
    have z7x := HR7.out.free 7
    have z8x := HR7.out.free 8
    go_wp2
    have o3 := ((((((((HR7.out.set_ 0 (.slice none 0 0)).set_ 1 (.slice none 0 0)).set_ 2 (.slice none 0 0)).set_ 3 (.int .i64 0)).set_ 4 (.int .i64 0)).set_ 5 (.int .i64 0)).set_ 6 (.int .i64 0)).set_ 7 (.slice none 0 0)).set_ 8 (.int .i64 0)
    have t0 := o3.cell_ 0 (v := .slice none 0 0) (by simp)
    have t1 := o3.cell_ 1 (v := .slice none 0 0) (by simp)
    have t2 := o3.cell_ 2 (v := .slice none 0 0) (by simp)
    have t3 := o3.cell_ 3 (v := .int .i64 0) (by simp)
    have t4 := o3.cell_ 4 (v := .int .i64 0) (by simp)
    have t5 := o3.cell_ 5 (v := .int .i64 0) (by simp)
    have t6 := o3.cell_ 6 (v := .int .i64 0) (by simp)
    have t7 := o3.cell_ 7 (v := .slice none 0 0) (by simp)
    have t8 := o3.cell_ 8 (v := .int .i64 0) (by simp)
    refine bodyPost_ret (v := .tuple #[.agg #[.slice none 0 0, .slice none 0 0, .slice none 0 0, .int .i64 0, .int .i64 0, .int .i64 0, .int .i64 0, .slice none 0 0, .int .i64 0], .bool false]) (by simp [results, Tryz.results55, go_sem, t0, t1, t2, t3, t4, t5, t6, t7, t8]) rfl ⟨_, rfl, _, _, _, _, by rw [HA.out, HV.out]; rfl, by rw [HV.out]; exact mam_z, ?_⟩
    repeat (refine bS ?_ (by simp <;> omega))
    exact HB7.out
  | true =>
    have k07 := HK7.out.cell_ 0 (v := .int .i64 s) rfl
    have k17 := HK7.out.cell_ 1 (v := .int .i64 p) rfl
    go_wp2_with fail
    refine (l6Shared_any s p _).mono ?_
    rintro e w1 ⟨rfl, hb1⟩
    have HX1 := Lib.hid (HX7.out.below hb1)
    have HK1 := Lib.hid (HK7.out.below hb1)
    have HR1 := Lib.hid (HR7.out.below hb1)
    have HB1 := Lib.hid (bT HB7.out hb1)
    have HS1 := Lib.hid (Nat.le_trans HS7.out hb1.size)
    clear hb1
    clear k07 k17
    cases h2 : (kval (s, p) && decide (keyI s p = s)) with
    | false =>
      have HA : Hid (putOK m s p fr r = false) := by
        show _ = _
        unfold putOK mapOK
        rw [Bool.and_eq_false_iff] at h2
        rcases h2 with h2 | h2
        · rw [h2]; simp
        · rw [h2]; simp
      have HV := Lib.hid (putOK_false HA.out)
      have r0x := HR1.out.cell_ 0 (v := .slice none 0 0) rfl
      have r1x := HR1.out.cell_ 1 (v := .slice none 0 0) rfl
      have r2x := HR1.out.cell_ 2 (v := .slice none 0 0) rfl
      have r3x := HR1.out.cell_ 3 (v := .int .i64 0) rfl
      have r4x := HR1.out.cell_ 4 (v := .int .i64 0) rfl
      have r5x := HR1.out.cell_ 5 (v := .int .i64 0) rfl
      have r6x := HR1.out.cell_ 6 (v := .int .i64 0) rfl
      have r7x := HR1.out.cell_ 7 (v := .slice none 0 0) rfl
      have r8x := HR1.out.cell_ 8 (v := .int .i64 0) rfl
      have z0x := HR1.out.free 0
      have z1x := HR1.out.free 1
      have z2x := HR1.out.free 2
      have z3x := HR1.out.free 3
      have z4x := HR1.out.free 4
      have z5x := HR1.out.free 5
      have z6x := HR1.out.free 6
      have z7x := HR1.out.free 7
      have z8x := HR1.out.free 8
      go_wp2
      have o3 := ((((((((HR1.out.set_ 0 (.slice none 0 0)).set_ 1 (.slice none 0 0)).set_ 2 (.slice none 0 0)).set_ 3 (.int .i64 0)).set_ 4 (.int .i64 0)).set_ 5 (.int .i64 0)).set_ 6 (.int .i64 0)).set_ 7 (.slice none 0 0)).set_ 8 (.int .i64 0)
      have t0 := o3.cell_ 0 (v := .slice none 0 0) (by simp)
      have t1 := o3.cell_ 1 (v := .slice none 0 0) (by simp)
      have t2 := o3.cell_ 2 (v := .slice none 0 0) (by simp)
      have t3 := o3.cell_ 3 (v := .int .i64 0) (by simp)
      have t4 := o3.cell_ 4 (v := .int .i64 0) (by simp)
      have t5 := o3.cell_ 5 (v := .int .i64 0) (by simp)
      have t6 := o3.cell_ 6 (v := .int .i64 0) (by simp)
      have t7 := o3.cell_ 7 (v := .slice none 0 0) (by simp)
      have t8 := o3.cell_ 8 (v := .int .i64 0) (by simp)
      refine bodyPost_ret (v := .tuple #[.agg #[.slice none 0 0, .slice none 0 0, .slice none 0 0, .int .i64 0, .int .i64 0, .int .i64 0, .int .i64 0, .slice none 0 0, .int .i64 0], .bool false]) (by simp [results, Tryz.results55, go_sem, t0, t1, t2, t3, t4, t5, t6, t7, t8]) rfl ⟨_, rfl, _, _, _, _, by rw [HA.out, HV.out]; rfl, by rw [HV.out]; exact mam_z, ?_⟩
      repeat (refine bS ?_ (by simp <;> omega))
      exact HB1.out
    | true =>
      rw [Bool.and_eq_true, decide_eq_true_eq] at h2
      replace h2 := h2.2
      obtain ⟨a1, a2, a3, a4⟩ := mav_len h1
      have m01 := HX1.out.cell_ 0 (v := vb) rfl
      have m11 := HX1.out.cell_ 1 (v := vf) rfl
      have m21 := HX1.out.cell_ 2 (v := vl) rfl
      have m31 := HX1.out.cell_ 3 (v := .int .i64 m.c.hand) rfl
      have m41 := HX1.out.cell_ 4 (v := .int .i64 m.g.count) rfl
      have m51 := HX1.out.cell_ 5 (v := .int .i64 m.g.next) rfl
      have m61 := HX1.out.cell_ 6 (v := .int .i64 m.g.round) rfl
      have m71 := HX1.out.cell_ 7 (v := vo) rfl
      have m81 := HX1.out.cell_ 8 (v := .int .i64 m.sp) rfl
      have k01 := HK1.out.cell_ 0 (v := .int .i64 s) rfl
      have k11 := HK1.out.cell_ 1 (v := .int .i64 p) rfl
      go_wp2_with fail
      refine (sMapPage_any vb vf m.t s p fr r _ (HM.out.t.now HB1.out)).mono ?_
      rintro e w2 ⟨_, rfl, v1, v2, rfl, hT2, hb2⟩
      obtain ⟨A1, c1, rfl, _⟩ := hT2.b
      obtain ⟨A2, c2, rfl, _⟩ := hT2.f
      have hs1 := HS1.out
      have HX2 := Lib.hid (HX1.out.below hb2)
      have HK2 := Lib.hid (HK1.out.below hb2)
      have HR2 := Lib.hid (HR1.out.below hb2)
      have HB2 := Lib.hid (bT HB1.out hb2)
      have HS2 := Lib.hid (Nat.le_trans HS1.out hb2.size)
      clear hb2
      clear m01 m11 m21 m31 m41 m51 m61 m71 m81
      clear k01 k11
      have ho5 := Own.new_ w2 26 #[.slice A1 (mapV m.t s p fr r).bs.length c1, .slice A2 (mapV m.t s p fr r).fs.length c2]
      have hb5 : Below w2.heap.size w2 (w2.alloc (.cells #[.slice A1 (mapV m.t s p fr r).bs.length c1, .slice A2 (mapV m.t s p fr r).fs.length c2] 26)) := bA bR
      generalize hW5 : w2.alloc (.cells #[.slice A1 (mapV m.t s p fr r).bs.length c1, .slice A2 (mapV m.t s p fr r).fs.length c2] 26) = w5 at ho5 hb5
      have HT5 := Lib.hid ((hT2.now hb5).mono hs1)
      clear hT2
      have HX5 := Lib.hid (HX2.out.below hb5)
      have HK5 := Lib.hid (HK2.out.below hb5)
      have HR5 := Lib.hid (HR2.out.below hb5)
      have HB5 := Lib.hid (bT HB2.out hb5)
      have HS5 := Lib.hid (Nat.le_trans HS2.out hb5.size)
      clear hb5
      cases h3 : mapOK m.t s p fr r with
      | false =>
        have HA : Hid (putOK m s p fr r = false) := by show _ = _; unfold putOK; rw [h3]; simp
        have HV := Lib.hid (putOK_false HA.out)
        clear ho5
        have r0x := HR5.out.cell_ 0 (v := .slice none 0 0) rfl
        have r1x := HR5.out.cell_ 1 (v := .slice none 0 0) rfl
        have r2x := HR5.out.cell_ 2 (v := .slice none 0 0) rfl
        have r3x := HR5.out.cell_ 3 (v := .int .i64 0) rfl
        have r4x := HR5.out.cell_ 4 (v := .int .i64 0) rfl
        have r5x := HR5.out.cell_ 5 (v := .int .i64 0) rfl
        have r6x := HR5.out.cell_ 6 (v := .int .i64 0) rfl
        have r7x := HR5.out.cell_ 7 (v := .slice none 0 0) rfl
        have r8x := HR5.out.cell_ 8 (v := .int .i64 0) rfl
        have z0x := HR5.out.free 0
        have z1x := HR5.out.free 1
        have z2x := HR5.out.free 2
        have z3x := HR5.out.free 3
        have z4x := HR5.out.free 4
        have z5x := HR5.out.free 5
        have z6x := HR5.out.free 6
        have z7x := HR5.out.free 7
        have z8x := HR5.out.free 8
        go_wp2
        have o3 := ((((((((HR5.out.set_ 0 (.slice none 0 0)).set_ 1 (.slice none 0 0)).set_ 2 (.slice none 0 0)).set_ 3 (.int .i64 0)).set_ 4 (.int .i64 0)).set_ 5 (.int .i64 0)).set_ 6 (.int .i64 0)).set_ 7 (.slice none 0 0)).set_ 8 (.int .i64 0)
        have t0 := o3.cell_ 0 (v := .slice none 0 0) (by simp)
        have t1 := o3.cell_ 1 (v := .slice none 0 0) (by simp)
        have t2 := o3.cell_ 2 (v := .slice none 0 0) (by simp)
        have t3 := o3.cell_ 3 (v := .int .i64 0) (by simp)
        have t4 := o3.cell_ 4 (v := .int .i64 0) (by simp)
        have t5 := o3.cell_ 5 (v := .int .i64 0) (by simp)
        have t6 := o3.cell_ 6 (v := .int .i64 0) (by simp)
        have t7 := o3.cell_ 7 (v := .slice none 0 0) (by simp)
        have t8 := o3.cell_ 8 (v := .int .i64 0) (by simp)
        refine bodyPost_ret (v := .tuple #[.agg #[.slice none 0 0, .slice none 0 0, .slice none 0 0, .int .i64 0, .int .i64 0, .int .i64 0, .int .i64 0, .slice none 0 0, .int .i64 0], .bool false]) (by simp [results, Tryz.results55, go_sem, t0, t1, t2, t3, t4, t5, t6, t7, t8]) rfl ⟨_, rfl, _, _, _, _, by rw [HA.out, HV.out]; rfl, by rw [HV.out]; exact mam_z, ?_⟩
        repeat (refine bS ?_ (by simp <;> omega))
        exact HB5.out
      | true =>
        have HA : Hid (putOK m s p fr r = true) := by show _ = _; unfold putOK; rw [h1, h3, decide_eq_true h2]; rfl
        have HV : Hid (putV m s p fr r = { m with t := mapV m.t s p fr r }) := by show _ = _; unfold putV; rw [HA.out]; rfl
        have m05 := HX5.out.cell_ 0 (v := vb) rfl
        have m15 := HX5.out.cell_ 1 (v := vf) rfl
        have m25 := HX5.out.cell_ 2 (v := vl) rfl
        have m35 := HX5.out.cell_ 3 (v := .int .i64 m.c.hand) rfl
        have m45 := HX5.out.cell_ 4 (v := .int .i64 m.g.count) rfl
        have m55 := HX5.out.cell_ 5 (v := .int .i64 m.g.next) rfl
        have m65 := HX5.out.cell_ 6 (v := .int .i64 m.g.round) rfl
        have m75 := HX5.out.cell_ 7 (v := vo) rfl
        have m85 := HX5.out.cell_ 8 (v := .int .i64 m.sp) rfl
        go_wp2_with fail
        refine (l6Copy_any vb vf vl vo m _ (HM.out.now HB5.out) a1 a2 a3 a4).mono ?_
        rintro e w3 ⟨_, rfl, q1, q2, q3, q4, rfl, hM3, hb3⟩
        have hs2 := HS5.out
        have HT3 := Lib.hid (HT5.out.now hb3)
        have HM3 := Lib.hid (hM3.mono hs2)
        have ho3 := ho5.below hb3
        have u0 := ho3.cell_ 0 (v := .slice A1 (mapV m.t s p fr r).bs.length c1) rfl
        have u1 := ho3.cell_ 1 (v := .slice A2 (mapV m.t s p fr r).fs.length c2) rfl
        have hl5 := ho3.lt
        obtain ⟨B1, d1, rfl, _⟩ := HM3.out.t.b
        obtain ⟨B2, d2, rfl, _⟩ := HM3.out.t.f
        obtain ⟨B3, d3, rfl, _⟩ := HM3.out.l
        obtain ⟨B4, d4, rfl, _⟩ := HM3.out.o
        clear hM3 ho3 ho5
        have HX3 := Lib.hid (HX5.out.below hb3)
        have HK3 := Lib.hid (HK5.out.below hb3)
        have HR3 := Lib.hid (HR5.out.below hb3)
        have HB3 := Lib.hid (bT HB5.out hb3)
        have HS3 := Lib.hid (Nat.le_trans HS5.out hb3.size)
        clear hb3
        clear m05 m15 m25 m35 m45 m55 m65 m75 m85
        have r0x := HR3.out.cell_ 0 (v := .slice none 0 0) rfl
        have r1x := HR3.out.cell_ 1 (v := .slice none 0 0) rfl
        have r2x := HR3.out.cell_ 2 (v := .slice none 0 0) rfl
        have r3x := HR3.out.cell_ 3 (v := .int .i64 0) rfl
        have r4x := HR3.out.cell_ 4 (v := .int .i64 0) rfl
        have r5x := HR3.out.cell_ 5 (v := .int .i64 0) rfl
        have r6x := HR3.out.cell_ 6 (v := .int .i64 0) rfl
        have r7x := HR3.out.cell_ 7 (v := .slice none 0 0) rfl
        have r8x := HR3.out.cell_ 8 (v := .int .i64 0) rfl
        have z0x := HR3.out.free 0
        have z1x := HR3.out.free 1
        have z2x := HR3.out.free 2
        have z3x := HR3.out.free 3
        have z4x := HR3.out.free 4
        have z5x := HR3.out.free 5
        have z6x := HR3.out.free 6
        have z7x := HR3.out.free 7
        have z8x := HR3.out.free 8
        have hl3 := HR3.out.lt
        go_wp2
        have o3 := (((((((((HR3.out.set_ 0 (.slice A1 (mapV m.t s p fr r).bs.length c1)).set_ 1 (.slice A2 (mapV m.t s p fr r).fs.length c2)).set_ 2 (.slice B3 m.c.ls.length d3)).set_ 3 (.int .i64 m.c.hand)).set_ 4 (.int .i64 m.g.count)).set_ 5 (.int .i64 m.g.next)).set_ 6 (.int .i64 m.g.round)).set_ 7 (.slice B4 m.g.os.length d4)).set_ 8 (.int .i64 m.sp))
        have o4 := o3.alloc (o := .cells #[.slice A1 (mapV m.t s p fr r).bs.length c1, .slice A2 (mapV m.t s p fr r).fs.length c2, .slice B3 m.c.ls.length d3, .int .i64 m.c.hand, .int .i64 m.g.count, .int .i64 m.g.next, .int .i64 m.g.round, .slice B4 m.g.os.length d4, .int .i64 m.sp] 34)
        have v0 := o4.cell_ 0 (v := .slice A1 (mapV m.t s p fr r).bs.length c1) (by simp)
        have v1 := o4.cell_ 1 (v := .slice A2 (mapV m.t s p fr r).fs.length c2) (by simp)
        have v2 := o4.cell_ 2 (v := .slice B3 m.c.ls.length d3) (by simp)
        have v3 := o4.cell_ 3 (v := .int .i64 m.c.hand) (by simp)
        have v4 := o4.cell_ 4 (v := .int .i64 m.g.count) (by simp)
        have v5 := o4.cell_ 5 (v := .int .i64 m.g.next) (by simp)
        have v6 := o4.cell_ 6 (v := .int .i64 m.g.round) (by simp)
        have v7 := o4.cell_ 7 (v := .slice B4 m.g.os.length d4) (by simp)
        have v8 := o4.cell_ 8 (v := .int .i64 m.sp) (by simp)
        refine bodyPost_ret (v := .tuple #[.agg #[.slice A1 (mapV m.t s p fr r).bs.length c1, .slice A2 (mapV m.t s p fr r).fs.length c2, .slice B3 m.c.ls.length d3, .int .i64 m.c.hand, .int .i64 m.g.count, .int .i64 m.g.next, .int .i64 m.g.round, .slice B4 m.g.os.length d4, .int .i64 m.sp], .bool true]) (by simp [results, Tryz.results55, go_sem, v0, v1, v2, v3, v4, v5, v6, v7, v8]) rfl ⟨_, rfl, _, _, _, _, by rw [HA.out, HV.out], ?_, ?_⟩
        · rw [HV.out]
          have hmm : MaM (w.heap.size + 3) w3 (.slice A1 (mapV m.t s p fr r).bs.length c1) (.slice A2 (mapV m.t s p fr r).fs.length c2) (.slice B3 m.c.ls.length d3) (.slice B4 m.g.os.length d4) { m with t := mapV m.t s p fr r } := ⟨HT3.out, HM3.out.l, HM3.out.o⟩
          refine MaM.mono (B := w.heap.size + 3) (MaM.now ?_ (bA bR)) (by omega)
          repeat (refine MaM.far ?_ (by show w.heap.size + 1 + 1 < w.heap.size + 3; omega))
          exact hmm
        · refine bA ?_
          repeat (refine bS ?_ (by simp <;> omega))
          exact HB3.out
end Go.Proofs.YtnaagdmaggdbmaaGreatDoor
namespace Go.Proofs.YtnaagdmaggdbmaaGreatDoor
open Go.RowKit
set_option maxRecDepth 1000000

/-! ### what the exact laws do with machines -/
theorem szIntS_any (A : Option Addr) (n c : Nat) (left : Int) (w : World) (hn : n ≤ 9223372036854775807) (h0 : 0 ≤ left) (h1 : left ≤ 1048576) :
    Calls Tryz.prog 147 #[.slice A n c, .int .i64 left] w fun r w' => r = .returned (.int .i64 (if left - (n : Int) < 0 then -1 else left - (n : Int))) ∧ w = w' := by
  by_cases h : left - (n : Int) < 0
  · rw [if_pos h]
    go_enter Tryz.func147, Tryz.ntmps147
    go_wp2
    go_ret
    exact ⟨rfl, rfl⟩
  · rw [if_neg h]
    go_enter Tryz.func147, Tryz.ntmps147
    go_wp2
    go_ret
    exact ⟨rfl, rfl⟩
theorem szFrameS_any (A : Option Addr) (n c : Nat) (left : Int) (w : World) (hn : n ≤ 9223372036854775807) (h0 : 0 ≤ left) (h1 : left ≤ 1048576) :
    Calls Tryz.prog 148 #[.slice A n c, .int .i64 left] w fun r w' => r = .returned (.int .i64 (if left - (n : Int) < 0 then -1 else left - (n : Int))) ∧ w = w' := by
  by_cases h : left - (n : Int) < 0
  · rw [if_pos h]
    go_enter Tryz.func148, Tryz.ntmps148
    go_wp2
    go_ret
    exact ⟨rfl, rfl⟩
  · rw [if_neg h]
    go_enter Tryz.func148, Tryz.ntmps148
    go_wp2
    go_ret
    exact ⟨rfl, rfl⟩
theorem szLineS_any (A : Option Addr) (n c : Nat) (left : Int) (w : World) (hn : n ≤ 9223372036854775807) (h0 : 0 ≤ left) (h1 : left ≤ 1048576) :
    Calls Tryz.prog 149 #[.slice A n c, .int .i64 left] w fun r w' => r = .returned (.int .i64 (if left - (n : Int) < 0 then -1 else left - (n : Int))) ∧ w = w' := by
  by_cases h : left - (n : Int) < 0
  · rw [if_pos h]
    go_enter Tryz.func149, Tryz.ntmps149
    go_wp2
    go_ret
    exact ⟨rfl, rfl⟩
  · rw [if_neg h]
    go_enter Tryz.func149, Tryz.ntmps149
    go_wp2
    go_ret
    exact ⟨rfl, rfl⟩
theorem szOwnS_any (A : Option Addr) (n c : Nat) (left : Int) (w : World) (hn : n ≤ 9223372036854775807) (h0 : 0 ≤ left) (h1 : left ≤ 1048576) :
    Calls Tryz.prog 150 #[.slice A n c, .int .i64 left] w fun r w' => r = .returned (.int .i64 (if left - (n : Int) < 0 then -1 else left - (n : Int))) ∧ w = w' := by
  by_cases h : left - (n : Int) < 0
  · rw [if_pos h]
    go_enter Tryz.func150, Tryz.ntmps150
    go_wp2
    go_ret
    exact ⟨rfl, rfl⟩
  · rw [if_neg h]
    go_enter Tryz.func150, Tryz.ntmps150
    go_wp2
    go_ret
    exact ⟨rfl, rfl⟩
theorem toKey_any (x y : Int) (w : World) : Calls Tryz.prog 213 #[.agg #[.int .i64 x, .int .i64 y]] w fun r w' => r = .returned (.agg #[.int .i64 x, .int .i64 y]) ∧ Below w.heap.size w w' := by
  go_enter Tryz.func213, Tryz.ntmps213
  go_wp2
  refine bodyPost_ret (v := .agg #[.int .i64 x, .int .i64 y]) (by simp [results, Tryz.results213, go_sem]) rfl ⟨rfl, ?_⟩
  repeat first | exact bR | refine bS ?_ (by simp) | refine bA ?_
theorem toOwn_any (o : Int × Int) (w : World) : Calls Tryz.prog 205 #[.agg #[.int .i64 o.1, .int .i64 o.2]] w fun r w' => r = .returned (.agg #[.int .i64 o.1, .int .i64 o.2]) ∧ Below w.heap.size w w' := by
  go_enter Tryz.func205, Tryz.ntmps205
  go_wp2
  refine bodyPost_ret (v := .agg #[.int .i64 o.1, .int .i64 o.2]) (by simp [results, Tryz.results205, go_sem]) rfl ⟨rfl, ?_⟩
  repeat first | exact bR | refine bS ?_ (by simp) | refine bA ?_
theorem toLine_any (x : Ln) (w : World) : Calls Tryz.prog 204 #[lnV x] w fun r w' => r = .returned (lnV x) ∧ Below w.heap.size w w' := by
  simp only [lnV]
  go_enter Tryz.func204, Tryz.ntmps204
  go_wp2
  refine bodyPost_ret (v := lnV x) (by simp [results, Tryz.results204, go_sem]) rfl ⟨rfl, ?_⟩
  repeat first | exact bR | refine bS ?_ (by simp) | refine bA ?_
theorem toFrame_any (f : Fr) (w : World) : Calls Tryz.prog 203 #[frV f] w fun r w' => r = .returned (frV f) ∧ Below w.heap.size w w' := by
  simp only [frV]
  go_enter Tryz.func203, Tryz.ntmps203
  go_wp2_with fail
  refine (toKey_any _ _ _).mono ?_
  rintro e w1 ⟨rfl, hb1⟩
  have h0 := ((Own.new_ w 214 #[.bool f.used, .int .i64 f.s, .int .i64 f.p, .int .i64 f.r, .int .i64 f.n]).alloc (o := .cells #[.bool false, .int .i64 0, .int .i64 0, .int .i64 0, .int .i64 0] 48)).alloc (o := .cells #[.bool f.used, .int .i64 0, .int .i64 0, .int .i64 0, .int .i64 0] 48) |>.below hb1
  have h1 := (ownAt (W := w.alloc (.cells #[.bool f.used, .int .i64 f.s, .int .i64 f.p, .int .i64 f.r, .int .i64 f.n] 214)) (g := w.heap.size + 1) (t := 48) (cs := #[.bool false, .int .i64 0, .int .i64 0, .int .i64 0, .int .i64 0]) (by simp)).alloc (o := .cells #[.bool f.used, .int .i64 0, .int .i64 0, .int .i64 0, .int .i64 0] 48) |>.below hb1
  have h2 := (ownAt (W := (w.alloc (.cells #[.bool f.used, .int .i64 f.s, .int .i64 f.p, .int .i64 f.r, .int .i64 f.n] 214)).alloc (.cells #[.bool false, .int .i64 0, .int .i64 0, .int .i64 0, .int .i64 0] 48)) (g := w.heap.size + 1 + 1) (t := 48) (cs := #[.bool f.used, .int .i64 0, .int .i64 0, .int .i64 0, .int .i64 0]) (by simp)).below hb1
  have hbw : Below w.heap.size w w1 := bT (bA (bA (bA bR))) hb1
  have a3 := h0.cell_ 3 (v := .int .i64 f.r) rfl
  have a4 := h0.cell_ 4 (v := .int .i64 f.n) rfl
  have b0 := h1.cell_ 0 (v := .bool false) rfl
  have b1 := h1.cell_ 1 (v := .int .i64 0) rfl
  have b2 := h1.cell_ 2 (v := .int .i64 0) rfl
  have b3 := h1.cell_ 3 (v := .int .i64 0) rfl
  have b4 := h1.cell_ 4 (v := .int .i64 0) rfl
  have c0 := h2.cell_ 0 (v := .bool f.used) rfl
  have c1 := h2.cell_ 1 (v := .int .i64 0) rfl
  have c2 := h2.cell_ 2 (v := .int .i64 0) rfl
  have c3 := h2.cell_ 3 (v := .int .i64 0) rfl
  have c4 := h2.cell_ 4 (v := .int .i64 0) rfl
  have f0 := h1.free 0
  have f1 := h1.free 1
  have f2 := h1.free 2
  have f3 := h1.free 3
  have f4 := h1.free 4
  have g1 := h2.free 1
  have g2 := h2.free 2
  have g3 := h2.free 3
  have g4 := h2.free 4
  have H1 := Lib.hid h1
  have HB := Lib.hid hbw
  clear h0 h1 h2 hbw hb1
  go_wp2
  have o3 := (((((((((H1.out.far (p := ⟨w.heap.size + 1 + 1, 1, none⟩) (u := .int .i64 f.s) (by simp)).far (p := ⟨w.heap.size + 1 + 1, 2, none⟩) (u := .int .i64 f.p) (by simp)).far (p := ⟨w.heap.size + 1 + 1, 3, none⟩) (u := .int .i64 f.r) (by simp)).far (p := ⟨w.heap.size + 1 + 1, 4, none⟩) (u := .int .i64 f.n) (by simp)).set_ 0 (.bool f.used)).set_ 1 (.int .i64 f.s)).set_ 2 (.int .i64 f.p)).set_ 3 (.int .i64 f.r)).set_ 4 (.int .i64 f.n))
  have t0 := o3.cell_ 0 (v := .bool f.used) (by simp)
  have t1 := o3.cell_ 1 (v := .int .i64 f.s) (by simp)
  have t2 := o3.cell_ 2 (v := .int .i64 f.p) (by simp)
  have t3 := o3.cell_ 3 (v := .int .i64 f.r) (by simp)
  have t4 := o3.cell_ 4 (v := .int .i64 f.n) (by simp)
  refine bodyPost_ret (v := frV f) (by simp [results, Tryz.results203, go_sem, t0, t1, t2, t3, t4]) rfl ⟨rfl, ?_⟩
  repeat (refine bS ?_ (by simp <;> omega))
  exact HB.out
/-- a block of elements of the call's own, freshly made -/
structure EOwn {α : Type} (E : Enc α) (e : TypeId) (w : World) (g : Nat) (l : List α) : Prop where
  own : ∃ cs, Own w g e cs ∧ cs.size = l.length * E.sz ∧ ∀ j, j < l.length * E.sz → cs[j]? = (E.cells l)[j]?
theorem EOwn.slm {α : Type} {E : Enc α} {e : TypeId} {w : World} {g B : Nat} {l : List α} (h : EOwn E e w g l) (hB : B ≤ g) (hl : l.length ≤ maxLen) : SlM E e B w (.slice (some ⟨g, 0, none⟩) l.length l.length) l := by
  obtain ⟨cs, h1, h2, h3⟩ := h.own
  refine slm_of rfl (Nat.le_refl _) hl ⟨⟨E.cells_length l, fun _ => ⟨g, 0, rfl, h1.lt, fun j u hu => ?_⟩⟩, fun _ => ⟨g, cs, rfl, hB, h1, by omega⟩⟩
  obtain ⟨hj, _⟩ := List.getElem?_eq_some_iff.1 hu
  rw [E.cells_length] at hj
  rw [Nat.zero_add, h1.cell, h3 j hj, hu]
/-- one element more of a block that is filled from its front -/
theorem fill_at {α : Type} {E : Enc α} {l : List α} {k : Nat} {a : α} {cs cs' : Array Value} (e : l[k]? = some a) (_ : cs'.size = cs.size) (hin : ∀ j u, (E.cs a)[j]? = some u → cs'[k * E.sz + j]? = some u)
    (hout : ∀ i, i < k * E.sz → cs'[i]? = cs[i]?) (h : ∀ j, j < k * E.sz → cs[j]? = (E.cells l)[j]?) : ∀ j, j < (k + 1) * E.sz → cs'[j]? = (E.cells l)[j]? := by
  intro j hj
  rcases Nat.lt_or_ge j (k * E.sz) with h1 | h1
  · rw [hout j h1]; exact h j h1
  · obtain ⟨d, rfl⟩ : ∃ d, j = k * E.sz + d := ⟨j - k * E.sz, by omega⟩
    have hd : d < E.sz := by rw [Nat.add_mul] at hj; omega
    obtain ⟨u, hu⟩ : ∃ u, (E.cs a)[d]? = some u := ⟨_, List.getElem?_eq_getElem (by rw [E.len]; exact hd)⟩
    rw [hin d u hu, E.cells_get e hu]
end Go.Proofs.YtnaagdmaggdbmaaGreatDoor
namespace Go.Proofs.YtnaagdmaggdbmaaGreatDoor
open Go.RowKit
set_option maxRecDepth 1000000

theorem make_Frame (n : Nat) (hn : n ≤ 1048576) : ∃ cs : Array Value, cs.size = n * 5 ∧ ∀ w : World, (Instr.makeSlice 24 (.int .i64 (n : Int)) (.int .i64 (n : Int))).run Tryz.prog w = .ok (.slice (some ⟨w.heap.size, 0, none⟩) n n) (w.alloc (.cells cs 48)) := by
  refine ⟨madeCells #[.bool false, .int .i64 0, .int .i64 0, .int .i64 0, .int .i64 0] (n * 5), by simp [madeCells], fun w => ?_⟩
  obtain ⟨i0, hi0, hz0, hz1, hz2⟩ := info_parts fr_info
  have hb : (i0.bytes : Int) * ((n : Nat) : Int) ≤ 281474976710656 := by rw [hz2]; omega
  have hr := run_make (P := Tryz.prog) w 24 48 i0 _ Tryz.underlying24 hi0 hz0 .i64 .i64 n n (by omega) (by omega) hb (by omega)
  simp only [Int.toNat_natCast, hz1] at hr
  exact hr
set_option maxHeartbeats 1000000 in
theorem toFrameS_any (A : Option Addr) (c : Nat) (l : List (Fr)) (w : World) (h : Rs frE w.heap.size w A l) (hl : l.length ≤ 1048576) :
    Calls Tryz.prog 152 #[.slice A l.length c] w fun r w' => r = .returned (.slice (some ⟨w.heap.size, 0, none⟩) l.length l.length) ∧ EOwn frE 48 w' w.heap.size l ∧ Below w.heap.size w w' := by
  obtain ⟨C0, hC0, hmk⟩ := make_Frame l.length hl
  go_enter Tryz.func152, Tryz.ntmps152
  go_wp2
  go_loopw [4] (fun u wr => ∃ (k : Nat) (cs : Array Value), k ≤ l.length ∧ u = .int .i64 k ∧ cs.size = l.length * 5 ∧ Hid (∀ j, j < k * frE.sz → cs[j]? = (frE.cells l)[j]?) ∧ Own wr w.heap.size 48 cs ∧ Below w.heap.size w wr) (fun u _ => l.length - (intOf u).toNat)
  case atStart => exact ⟨0, _, by omega, rfl, hC0, (fun j hj => absurd hj (by omega)), Own.new_ _ _ _, bA bR⟩
  case round =>
    obtain ⟨k, cs, hk, rfl, hcs, hc, hown, hb⟩ := hrel
    by_cases hlt : k < l.length
    · obtain ⟨a, ea⟩ : ∃ a, l[k]? = some a := ⟨_, List.getElem?_eq_getElem hlt⟩
      obtain ⟨b, o, rfl, hbb, d0, d1, d2, d3, d4⟩ := (h.below hb).fr ea
      have EA := Lib.hid ea
      have HOWN := Lib.hid hown
      have HCS := Lib.hid hcs
      clear ea hown hcs
      go_wp2_with fail
      refine (toFrame_any a _).mono ?_
      rintro e w2 ⟨rfl, hb2⟩
      have hown := HOWN.out.below hb2
      obtain ⟨v0, hc0⟩ : ∃ v, w2.cell? ⟨w.heap.size, k * 5, none⟩ = some v := ⟨_, (hown.cell _).trans (Array.getElem?_eq_getElem (by have := HCS.out; omega))⟩
      have hf0 := hown.free (k * 5)
      obtain ⟨v1, hc1⟩ : ∃ v, w2.cell? ⟨w.heap.size, k * 5 + 1, none⟩ = some v := ⟨_, (hown.cell _).trans (Array.getElem?_eq_getElem (by have := HCS.out; omega))⟩
      have hf1 := hown.free (k * 5 + 1)
      obtain ⟨v2, hc2⟩ : ∃ v, w2.cell? ⟨w.heap.size, k * 5 + 2, none⟩ = some v := ⟨_, (hown.cell _).trans (Array.getElem?_eq_getElem (by have := HCS.out; omega))⟩
      have hf2 := hown.free (k * 5 + 2)
      obtain ⟨v3, hc3⟩ : ∃ v, w2.cell? ⟨w.heap.size, k * 5 + 3, none⟩ = some v := ⟨_, (hown.cell _).trans (Array.getElem?_eq_getElem (by have := HCS.out; omega))⟩
      have hf3 := hown.free (k * 5 + 3)
      obtain ⟨v4, hc4⟩ : ∃ v, w2.cell? ⟨w.heap.size, k * 5 + 4, none⟩ = some v := ⟨_, (hown.cell _).trans (Array.getElem?_eq_getElem (by have := HCS.out; omega))⟩
      have hf4 := hown.free (k * 5 + 4)
      have HFIN := Lib.hid (((((hown.set_ (k * 5) (.bool a.used)).set_ (k * 5 + 1) (.int .i64 a.s)).set_ (k * 5 + 2) (.int .i64 a.p)).set_ (k * 5 + 3) (.int .i64 a.r)).set_ (k * 5 + 4) (.int .i64 a.n))
      have HFILL := Lib.hid (fill_at (E := frE) (l := l) (k := k) (a := a) (cs := cs) (cs' := (((((cs.setIfInBounds (k * 5) (.bool a.used)).setIfInBounds (k * 5 + 1) (.int .i64 a.s)).setIfInBounds (k * 5 + 2) (.int .i64 a.p)).setIfInBounds (k * 5 + 3) (.int .i64 a.r)).setIfInBounds (k * 5 + 4) (.int .i64 a.n))) EA.out (by simp) (fun j u hu => by
          have hsz := HCS.out
          match j, hu with
            | 0, hu => simp [frE] at hu; subst hu; simp [frE, Array.getElem?_setIfInBounds]; omega
            | 1, hu => simp [frE] at hu; subst hu; simp [frE, Array.getElem?_setIfInBounds]; omega
            | 2, hu => simp [frE] at hu; subst hu; simp [frE, Array.getElem?_setIfInBounds]; omega
            | 3, hu => simp [frE] at hu; subst hu; simp [frE, Array.getElem?_setIfInBounds]; omega
            | 4, hu => simp [frE] at hu; subst hu; simp [frE, Array.getElem?_setIfInBounds]; omega
            | j + 5, hu => simp [frE] at hu)
        (fun i hi => by simp only [frE] at hi; simp only [Array.getElem?_setIfInBounds]; repeat rw [if_neg (by omega)]) hc.out)
      clear hown
      go_wp2
      go_roundw
      case rel => exact ⟨k + 1, _, by omega, by go_num, (by simp only [Array.size_setIfInBounds]; exact HCS.out), HFILL.out, HFIN.out, bS (bS (bS (bS (bS (bT hb hb2) (Nat.le_refl _)) (Nat.le_refl _)) (Nat.le_refl _)) (Nat.le_refl _)) (Nat.le_refl _)⟩
      case measure => simp [intOf]; omega
    · obtain rfl : k = l.length := by omega
      go_wp2
      go_ret
      exact ⟨rfl, ⟨⟨_, hown, hcs, hc.out⟩⟩, hb⟩
theorem make_Line (n : Nat) (hn : n ≤ 1048576) : ∃ cs : Array Value, cs.size = n * 6 ∧ ∀ w : World, (Instr.makeSlice 27 (.int .i64 (n : Int)) (.int .i64 (n : Int))).run Tryz.prog w = .ok (.slice (some ⟨w.heap.size, 0, none⟩) n n) (w.alloc (.cells cs 106)) := by
  refine ⟨madeCells #[.bool false, .int .i64 0, .int .i64 0, .int .i64 0, .int .i64 0, .bool false] (n * 6), by simp [madeCells], fun w => ?_⟩
  obtain ⟨i0, hi0, hz0, hz1, hz2⟩ := info_parts ln_info
  have hb : (i0.bytes : Int) * ((n : Nat) : Int) ≤ 281474976710656 := by rw [hz2]; omega
  have hr := run_make (P := Tryz.prog) w 27 106 i0 _ Tryz.underlying27 hi0 hz0 .i64 .i64 n n (by omega) (by omega) hb (by omega)
  simp only [Int.toNat_natCast, hz1] at hr
  exact hr
set_option maxHeartbeats 1000000 in
theorem toLineS_any (A : Option Addr) (c : Nat) (l : List (Ln)) (w : World) (h : Rs lnE w.heap.size w A l) (hl : l.length ≤ 1048576) :
    Calls Tryz.prog 153 #[.slice A l.length c] w fun r w' => r = .returned (.slice (some ⟨w.heap.size, 0, none⟩) l.length l.length) ∧ EOwn lnE 106 w' w.heap.size l ∧ Below w.heap.size w w' := by
  obtain ⟨C0, hC0, hmk⟩ := make_Line l.length hl
  go_enter Tryz.func153, Tryz.ntmps153
  go_wp2
  go_loopw [4] (fun u wr => ∃ (k : Nat) (cs : Array Value), k ≤ l.length ∧ u = .int .i64 k ∧ cs.size = l.length * 6 ∧ Hid (∀ j, j < k * lnE.sz → cs[j]? = (lnE.cells l)[j]?) ∧ Own wr w.heap.size 106 cs ∧ Below w.heap.size w wr) (fun u _ => l.length - (intOf u).toNat)
  case atStart => exact ⟨0, _, by omega, rfl, hC0, (fun j hj => absurd hj (by omega)), Own.new_ _ _ _, bA bR⟩
  case round =>
    obtain ⟨k, cs, hk, rfl, hcs, hc, hown, hb⟩ := hrel
    by_cases hlt : k < l.length
    · obtain ⟨a, ea⟩ : ∃ a, l[k]? = some a := ⟨_, List.getElem?_eq_getElem hlt⟩
      obtain ⟨b, o, rfl, hbb, d0, d1, d2, d3, d4, d5⟩ := (h.below hb).ln ea
      have EA := Lib.hid ea
      have HOWN := Lib.hid hown
      have HCS := Lib.hid hcs
      clear ea hown hcs
      go_wp2_with fail
      refine (toLine_any a _).mono ?_
      rintro e w2 ⟨rfl, hb2⟩
      have hown := HOWN.out.below hb2
      obtain ⟨v0, hc0⟩ : ∃ v, w2.cell? ⟨w.heap.size, k * 6, none⟩ = some v := ⟨_, (hown.cell _).trans (Array.getElem?_eq_getElem (by have := HCS.out; omega))⟩
      have hf0 := hown.free (k * 6)
      obtain ⟨v1, hc1⟩ : ∃ v, w2.cell? ⟨w.heap.size, k * 6 + 1, none⟩ = some v := ⟨_, (hown.cell _).trans (Array.getElem?_eq_getElem (by have := HCS.out; omega))⟩
      have hf1 := hown.free (k * 6 + 1)
      obtain ⟨v2, hc2⟩ : ∃ v, w2.cell? ⟨w.heap.size, k * 6 + 2, none⟩ = some v := ⟨_, (hown.cell _).trans (Array.getElem?_eq_getElem (by have := HCS.out; omega))⟩
      have hf2 := hown.free (k * 6 + 2)
      obtain ⟨v3, hc3⟩ : ∃ v, w2.cell? ⟨w.heap.size, k * 6 + 3, none⟩ = some v := ⟨_, (hown.cell _).trans (Array.getElem?_eq_getElem (by have := HCS.out; omega))⟩
      have hf3 := hown.free (k * 6 + 3)
      obtain ⟨v4, hc4⟩ : ∃ v, w2.cell? ⟨w.heap.size, k * 6 + 4, none⟩ = some v := ⟨_, (hown.cell _).trans (Array.getElem?_eq_getElem (by have := HCS.out; omega))⟩
      have hf4 := hown.free (k * 6 + 4)
      obtain ⟨v5, hc5⟩ : ∃ v, w2.cell? ⟨w.heap.size, k * 6 + 5, none⟩ = some v := ⟨_, (hown.cell _).trans (Array.getElem?_eq_getElem (by have := HCS.out; omega))⟩
      have hf5 := hown.free (k * 6 + 5)
      have HFIN := Lib.hid ((((((hown.set_ (k * 6) (.bool a.v)).set_ (k * 6 + 1) (.int .i64 a.t)).set_ (k * 6 + 2) (.int .i64 a.p)).set_ (k * 6 + 3) (.int .i64 a.f)).set_ (k * 6 + 4) (.int .i64 a.r)).set_ (k * 6 + 5) (.bool a.w))
      have HFILL := Lib.hid (fill_at (E := lnE) (l := l) (k := k) (a := a) (cs := cs) (cs' := ((((((cs.setIfInBounds (k * 6) (.bool a.v)).setIfInBounds (k * 6 + 1) (.int .i64 a.t)).setIfInBounds (k * 6 + 2) (.int .i64 a.p)).setIfInBounds (k * 6 + 3) (.int .i64 a.f)).setIfInBounds (k * 6 + 4) (.int .i64 a.r)).setIfInBounds (k * 6 + 5) (.bool a.w))) EA.out (by simp) (fun j u hu => by
          have hsz := HCS.out
          match j, hu with
            | 0, hu => simp [lnE] at hu; subst hu; simp [lnE, Array.getElem?_setIfInBounds]; omega
            | 1, hu => simp [lnE] at hu; subst hu; simp [lnE, Array.getElem?_setIfInBounds]; omega
            | 2, hu => simp [lnE] at hu; subst hu; simp [lnE, Array.getElem?_setIfInBounds]; omega
            | 3, hu => simp [lnE] at hu; subst hu; simp [lnE, Array.getElem?_setIfInBounds]; omega
            | 4, hu => simp [lnE] at hu; subst hu; simp [lnE, Array.getElem?_setIfInBounds]; omega
            | 5, hu => simp [lnE] at hu; subst hu; simp [lnE, Array.getElem?_setIfInBounds]; omega
            | j + 6, hu => simp [lnE] at hu)
        (fun i hi => by simp only [lnE] at hi; simp only [Array.getElem?_setIfInBounds]; repeat rw [if_neg (by omega)]) hc.out)
      clear hown
      go_wp2
      go_roundw
      case rel => exact ⟨k + 1, _, by omega, by go_num, (by simp only [Array.size_setIfInBounds]; exact HCS.out), HFILL.out, HFIN.out, bS (bS (bS (bS (bS (bS (bT hb hb2) (Nat.le_refl _)) (Nat.le_refl _)) (Nat.le_refl _)) (Nat.le_refl _)) (Nat.le_refl _)) (Nat.le_refl _)⟩
      case measure => simp [intOf]; omega
    · obtain rfl : k = l.length := by omega
      go_wp2
      go_ret
      exact ⟨rfl, ⟨⟨_, hown, hcs, hc.out⟩⟩, hb⟩
theorem make_Own (n : Nat) (hn : n ≤ 1048576) : ∃ cs : Array Value, cs.size = n * 2 ∧ ∀ w : World, (Instr.makeSlice 30 (.int .i64 (n : Int)) (.int .i64 (n : Int))).run Tryz.prog w = .ok (.slice (some ⟨w.heap.size, 0, none⟩) n n) (w.alloc (.cells cs 155)) := by
  refine ⟨madeCells #[.int .i64 0, .int .i64 0] (n * 2), by simp [madeCells], fun w => ?_⟩
  obtain ⟨i0, hi0, hz0, hz1, hz2⟩ := info_parts ow_info
  have hb : (i0.bytes : Int) * ((n : Nat) : Int) ≤ 281474976710656 := by rw [hz2]; omega
  have hr := run_make (P := Tryz.prog) w 30 155 i0 _ Tryz.underlying30 hi0 hz0 .i64 .i64 n n (by omega) (by omega) hb (by omega)
  simp only [Int.toNat_natCast, hz1] at hr
  exact hr
set_option maxHeartbeats 1000000 in
theorem toOwnS_any (A : Option Addr) (c : Nat) (l : List (Int × Int)) (w : World) (h : Rs owE w.heap.size w A l) (hl : l.length ≤ 1048576) :
    Calls Tryz.prog 154 #[.slice A l.length c] w fun r w' => r = .returned (.slice (some ⟨w.heap.size, 0, none⟩) l.length l.length) ∧ EOwn owE 155 w' w.heap.size l ∧ Below w.heap.size w w' := by
  obtain ⟨C0, hC0, hmk⟩ := make_Own l.length hl
  go_enter Tryz.func154, Tryz.ntmps154
  go_wp2
  go_loopw [4] (fun u wr => ∃ (k : Nat) (cs : Array Value), k ≤ l.length ∧ u = .int .i64 k ∧ cs.size = l.length * 2 ∧ Hid (∀ j, j < k * owE.sz → cs[j]? = (owE.cells l)[j]?) ∧ Own wr w.heap.size 155 cs ∧ Below w.heap.size w wr) (fun u _ => l.length - (intOf u).toNat)
  case atStart => exact ⟨0, _, by omega, rfl, hC0, (fun j hj => absurd hj (by omega)), Own.new_ _ _ _, bA bR⟩
  case round =>
    obtain ⟨k, cs, hk, rfl, hcs, hc, hown, hb⟩ := hrel
    by_cases hlt : k < l.length
    · obtain ⟨a, ea⟩ : ∃ a, l[k]? = some a := ⟨_, List.getElem?_eq_getElem hlt⟩
      obtain ⟨b, o, rfl, hbb, d0, d1⟩ := (h.below hb).ow ea
      have EA := Lib.hid ea
      have HOWN := Lib.hid hown
      have HCS := Lib.hid hcs
      clear ea hown hcs
      go_wp2_with fail
      refine (toOwn_any a _).mono ?_
      rintro e w2 ⟨rfl, hb2⟩
      have hown := HOWN.out.below hb2
      obtain ⟨v0, hc0⟩ : ∃ v, w2.cell? ⟨w.heap.size, k * 2, none⟩ = some v := ⟨_, (hown.cell _).trans (Array.getElem?_eq_getElem (by have := HCS.out; omega))⟩
      have hf0 := hown.free (k * 2)
      obtain ⟨v1, hc1⟩ : ∃ v, w2.cell? ⟨w.heap.size, k * 2 + 1, none⟩ = some v := ⟨_, (hown.cell _).trans (Array.getElem?_eq_getElem (by have := HCS.out; omega))⟩
      have hf1 := hown.free (k * 2 + 1)
      have HFIN := Lib.hid ((hown.set_ (k * 2) (.int .i64 a.1)).set_ (k * 2 + 1) (.int .i64 a.2))
      have HFILL := Lib.hid (fill_at (E := owE) (l := l) (k := k) (a := a) (cs := cs) (cs' := ((cs.setIfInBounds (k * 2) (.int .i64 a.1)).setIfInBounds (k * 2 + 1) (.int .i64 a.2))) EA.out (by simp) (fun j u hu => by
          have hsz := HCS.out
          match j, hu with
            | 0, hu => simp [owE] at hu; subst hu; simp [owE, Array.getElem?_setIfInBounds]; omega
            | 1, hu => simp [owE] at hu; subst hu; simp [owE, Array.getElem?_setIfInBounds]; omega
            | j + 2, hu => simp [owE] at hu)
        (fun i hi => by simp only [owE] at hi; simp only [Array.getElem?_setIfInBounds]; repeat rw [if_neg (by omega)]) hc.out)
      clear hown
      go_wp2
      go_roundw
      case rel => exact ⟨k + 1, _, by omega, by go_num, (by simp only [Array.size_setIfInBounds]; exact HCS.out), HFILL.out, HFIN.out, bS (bS (bT hb hb2) (Nat.le_refl _)) (Nat.le_refl _)⟩
      case measure => simp [intOf]; omega
    · obtain rfl : k = l.length := by omega
      go_wp2
      go_ret
      exact ⟨rfl, ⟨⟨_, hown, hcs, hc.out⟩⟩, hb⟩
theorem make_Int (n : Nat) (hn : n ≤ 1048576) : ∃ cs : Array Value, cs.size = n * 1 ∧ ∀ w : World, (Instr.makeSlice 23 (.int .i64 (n : Int)) (.int .i64 (n : Int))).run Tryz.prog w = .ok (.slice (some ⟨w.heap.size, 0, none⟩) n n) (w.alloc (.cells cs 3)) := by
  refine ⟨madeCells #[.int .i64 0] (n * 1), by simp [madeCells], fun w => ?_⟩
  obtain ⟨i0, hi0, hz0, hz1, hz2⟩ := info_parts int_info2
  have hb : (i0.bytes : Int) * ((n : Nat) : Int) ≤ 281474976710656 := by rw [hz2]; omega
  have hr := run_make (P := Tryz.prog) w 23 3 i0 _ Tryz.underlying23 hi0 hz0 .i64 .i64 n n (by omega) (by omega) hb (by omega)
  simp only [Int.toNat_natCast, hz1] at hr
  exact hr
set_option maxHeartbeats 1000000 in
theorem toIntS_any (A : Option Addr) (c : Nat) (l : List (Int)) (w : World) (h : Rs intE w.heap.size w A l) (hl : l.length ≤ 1048576) :
    Calls Tryz.prog 151 #[.slice A l.length c] w fun r w' => r = .returned (.slice (some ⟨w.heap.size, 0, none⟩) l.length l.length) ∧ EOwn intE 3 w' w.heap.size l ∧ Below w.heap.size w w' := by
  obtain ⟨C0, hC0, hmk⟩ := make_Int l.length hl
  go_enter Tryz.func151, Tryz.ntmps151
  go_wp2
  go_loopw [4] (fun u wr => ∃ (k : Nat) (cs : Array Value), k ≤ l.length ∧ u = .int .i64 k ∧ cs.size = l.length * 1 ∧ Hid (∀ j, j < k * intE.sz → cs[j]? = (intE.cells l)[j]?) ∧ Own wr w.heap.size 3 cs ∧ Below w.heap.size w wr) (fun u _ => l.length - (intOf u).toNat)
  case atStart => exact ⟨0, _, by omega, rfl, hC0, (fun j hj => absurd hj (by omega)), Own.new_ _ _ _, bA bR⟩
  case round =>
    obtain ⟨k, cs, hk, rfl, hcs, hc, hown, hb⟩ := hrel
    by_cases hlt : k < l.length
    · obtain ⟨a, ea⟩ : ∃ a, l[k]? = some a := ⟨_, List.getElem?_eq_getElem hlt⟩
      obtain ⟨b, o, rfl, hbb, d0⟩ := (h.below hb).i1 ea
      have EA := Lib.hid ea
      have HOWN := Lib.hid hown
      have HCS := Lib.hid hcs
      clear ea hown hcs
      obtain ⟨w2, hb2, rfl⟩ : ∃ w2, Below wr.heap.size wr w2 ∧ w2 = wr := ⟨wr, bR, rfl⟩
      have hown := HOWN.out.below hb2
      obtain ⟨v0, hc0⟩ : ∃ v, w2.cell? ⟨w.heap.size, k, none⟩ = some v := ⟨_, (hown.cell _).trans (Array.getElem?_eq_getElem (by have := HCS.out; omega))⟩
      have hf0 := hown.free (k)
      have HFIN := Lib.hid (hown.set_ (k) (.int .i64 a))
      have HFILL := Lib.hid (fill_at (E := intE) (l := l) (k := k) (a := a) (cs := cs) (cs' := (cs.setIfInBounds (k) (.int .i64 a))) EA.out (by simp) (fun j u hu => by
          have hsz := HCS.out
          match j, hu with
            | 0, hu => simp [intE] at hu; subst hu; simp [intE, Array.getElem?_setIfInBounds]; omega
            | j + 1, hu => simp [intE] at hu)
        (fun i hi => by simp only [intE] at hi; simp only [Array.getElem?_setIfInBounds]; repeat rw [if_neg (by omega)]) hc.out)
      clear hown
      go_wp2
      go_roundw
      case rel => exact ⟨k + 1, _, by omega, by go_num, (by simp only [Array.size_setIfInBounds]; exact HCS.out), HFILL.out, HFIN.out, bS (bT hb hb2) (Nat.le_refl _)⟩
      case measure => simp [intOf]; omega
    · obtain rfl : k = l.length := by omega
      go_wp2
      go_ret
      exact ⟨rfl, ⟨⟨_, hown, hcs, hc.out⟩⟩, hb⟩
end Go.Proofs.YtnaagdmaggdbmaaGreatDoor
namespace Go.Proofs.YtnaagdmaggdbmaaGreatDoor
open Go.RowKit
set_option maxRecDepth 1000000

set_option maxHeartbeats 2000000 in
theorem toCache_any (vl : Value) (c : Ca) (w : World) (hT : SlR lnE w vl c.ls) (hl : c.ls.length ≤ 1048576) :
    Calls Tryz.prog 83 #[.agg #[vl, .int .i64 c.hand]] w (Post2 fun v w' => ∃ v1, v = .agg #[v1, .int .i64 c.hand] ∧ SlM lnE 106 w.heap.size w' v1 c.ls ∧ Below w.heap.size w w') := by
  obtain ⟨A0, c0, rfl, _, _, hR0⟩ := hT
  have hp0 := ((Own.new_ w 64 #[.slice A0 c.ls.length c0, .int .i64 c.hand]).alloc (o := .cells #[.slice none 0 0, .int .i64 0] 29)).alloc (o := .cells #[.slice none 0 0, .int .i64 0] 29)
  have hr0 := (ownAt (W := (w.alloc (.cells #[.slice A0 c.ls.length c0, .int .i64 c.hand] 64))) (g := w.heap.size + 1) (t := 29) (cs := #[.slice none 0 0, .int .i64 0]) (by simp)).alloc (o := .cells #[.slice none 0 0, .int .i64 0] 29)
  have ho0 := ownAt (W := ((w.alloc (.cells #[.slice A0 c.ls.length c0, .int .i64 c.hand] 64)).alloc (.cells #[.slice none 0 0, .int .i64 0] 29))) (g := w.heap.size + 1 + 1) (t := 29) (cs := #[.slice none 0 0, .int .i64 0]) (by simp)
  have hb0 : Below w.heap.size w (((w.alloc (.cells #[.slice A0 c.ls.length c0, .int .i64 c.hand] 64)).alloc (.cells #[.slice none 0 0, .int .i64 0] 29)).alloc (.cells #[.slice none 0 0, .int .i64 0] 29)) := bA (bA (bA bR))
  have hs0 : w.heap.size + 3 ≤ (((w.alloc (.cells #[.slice A0 c.ls.length c0, .int .i64 c.hand] 64)).alloc (.cells #[.slice none 0 0, .int .i64 0] 29)).alloc (.cells #[.slice none 0 0, .int .i64 0] 29)).heap.size := by simp
  generalize hW0 : (((w.alloc (.cells #[.slice A0 c.ls.length c0, .int .i64 c.hand] 64)).alloc (.cells #[.slice none 0 0, .int .i64 0] 29)).alloc (.cells #[.slice none 0 0, .int .i64 0] 29)) = W0 at hp0 hr0 ho0 hb0 hs0
  have HP0 := Lib.hid hp0
  have HR0 := Lib.hid hr0
  have HO0 := Lib.hid ho0
  have HB0 := Lib.hid hb0
  clear hp0 hr0 ho0 hb0
  have p0_0 := HP0.out.cell_ 0 (v := .slice A0 c.ls.length c0) rfl
  have p1_0 := HP0.out.cell_ 1 (v := .int .i64 c.hand) rfl
  go_enter Tryz.func83, Tryz.ntmps83
  go_wp2_with fail
  refine (toLineS_any A0 c0 c.ls _ (hR0.now (Nat.le_refl _) HB0.out) hl).mono ?_
  rintro e W1 ⟨rfl, he_, hb_⟩
  have hp1 := HP0.out.below hb_
  have hr1 := HR0.out.below hb_
  have ho1 := HO0.out.below hb_
  have hb1 := bT HB0.out hb_
  have hs1 := Nat.le_trans hs0 hb_.size
  have HM0_1 : Hid (SlM lnE 106 (w.heap.size + 3) W1 (.slice (some ⟨W0.heap.size, 0, none⟩) c.ls.length c.ls.length) c.ls) := he_.slm hs0 (by unfold maxLen; omega)
  clear hb_ he_ p0_0 p1_0
  have HP1 := Lib.hid hp1
  have HR1 := Lib.hid hr1
  have HO1 := Lib.hid ho1
  have HB1 := Lib.hid hb1
  clear hp1 hr1 ho1 hb1
  have p0_1 := HP1.out.cell_ 0 (v := .slice A0 c.ls.length c0) rfl
  have p1_1 := HP1.out.cell_ 1 (v := .int .i64 c.hand) rfl
  have o0_1 := HO1.out.cell_ 0 (v := .slice none 0 0) rfl
  have f0_1 := HO1.out.free 0
  have o1_1 := HO1.out.cell_ 1 (v := .int .i64 0) rfl
  have f1_1 := HO1.out.free 1
  have r0_1 := HR1.out.cell_ 0 (v := .slice none 0 0) rfl
  have q0_1 := HR1.out.free 0
  have r1_1 := HR1.out.cell_ 1 (v := .int .i64 0) rfl
  have q1_1 := HR1.out.free 1
  go_wp2
  have o3 := ((((HR1.out.far (p := ⟨w.heap.size + 1 + 1, 0, none⟩) (u := .slice (some ⟨W0.heap.size, 0, none⟩) c.ls.length c.ls.length) (by simp)).far (p := ⟨w.heap.size + 1 + 1, 1, none⟩) (u := .int .i64 c.hand) (by simp)).set_ 0 (.slice (some ⟨W0.heap.size, 0, none⟩) c.ls.length c.ls.length)).set_ 1 (.int .i64 c.hand))
  have t0 := o3.cell_ 0 (v := .slice (some ⟨W0.heap.size, 0, none⟩) c.ls.length c.ls.length) (by simp)
  have t1 := o3.cell_ 1 (v := .int .i64 c.hand) (by simp)
  refine bodyPost_ret (v := .agg #[.slice (some ⟨W0.heap.size, 0, none⟩) c.ls.length c.ls.length, .int .i64 c.hand]) (by simp [results, Tryz.results83, go_sem, t0, t1]) rfl ⟨_, rfl, .slice (some ⟨W0.heap.size, 0, none⟩) c.ls.length c.ls.length, rfl, ?_, ?_⟩
  · refine SlM.mono (base' := w.heap.size) (base := w.heap.size + 3) ?_ (by omega)
    repeat (refine SlM.far ?_ (by show _ < w.heap.size + 3; simp))
    exact HM0_1.out
  · repeat (refine bS ?_ (by simp <;> omega))
    exact HB1.out

set_option maxHeartbeats 2000000 in
theorem toTags_any (vo : Value) (g : Tg) (w : World) (hT : SlR owE w vo g.os) (hl : g.os.length ≤ 1048576) :
    Calls Tryz.prog 84 #[.agg #[.int .i64 g.count, .int .i64 g.next, .int .i64 g.round, vo]] w (Post2 fun v w' => ∃ v1, v = .agg #[.int .i64 g.count, .int .i64 g.next, .int .i64 g.round, v1] ∧ SlM owE 155 w.heap.size w' v1 g.os ∧ Below w.heap.size w w') := by
  obtain ⟨A0, c0, rfl, _, _, hR0⟩ := hT
  have hp0 := ((Own.new_ w 67 #[.int .i64 g.count, .int .i64 g.next, .int .i64 g.round, .slice A0 g.os.length c0]).alloc (o := .cells #[.int .i64 0, .int .i64 0, .int .i64 0, .slice none 0 0] 32)).alloc (o := .cells #[.int .i64 0, .int .i64 0, .int .i64 0, .slice none 0 0] 32)
  have hr0 := (ownAt (W := (w.alloc (.cells #[.int .i64 g.count, .int .i64 g.next, .int .i64 g.round, .slice A0 g.os.length c0] 67))) (g := w.heap.size + 1) (t := 32) (cs := #[.int .i64 0, .int .i64 0, .int .i64 0, .slice none 0 0]) (by simp)).alloc (o := .cells #[.int .i64 0, .int .i64 0, .int .i64 0, .slice none 0 0] 32)
  have ho0 := ownAt (W := ((w.alloc (.cells #[.int .i64 g.count, .int .i64 g.next, .int .i64 g.round, .slice A0 g.os.length c0] 67)).alloc (.cells #[.int .i64 0, .int .i64 0, .int .i64 0, .slice none 0 0] 32))) (g := w.heap.size + 1 + 1) (t := 32) (cs := #[.int .i64 0, .int .i64 0, .int .i64 0, .slice none 0 0]) (by simp)
  have hb0 : Below w.heap.size w (((w.alloc (.cells #[.int .i64 g.count, .int .i64 g.next, .int .i64 g.round, .slice A0 g.os.length c0] 67)).alloc (.cells #[.int .i64 0, .int .i64 0, .int .i64 0, .slice none 0 0] 32)).alloc (.cells #[.int .i64 0, .int .i64 0, .int .i64 0, .slice none 0 0] 32)) := bA (bA (bA bR))
  have hs0 : w.heap.size + 3 ≤ (((w.alloc (.cells #[.int .i64 g.count, .int .i64 g.next, .int .i64 g.round, .slice A0 g.os.length c0] 67)).alloc (.cells #[.int .i64 0, .int .i64 0, .int .i64 0, .slice none 0 0] 32)).alloc (.cells #[.int .i64 0, .int .i64 0, .int .i64 0, .slice none 0 0] 32)).heap.size := by simp
  generalize hW0 : (((w.alloc (.cells #[.int .i64 g.count, .int .i64 g.next, .int .i64 g.round, .slice A0 g.os.length c0] 67)).alloc (.cells #[.int .i64 0, .int .i64 0, .int .i64 0, .slice none 0 0] 32)).alloc (.cells #[.int .i64 0, .int .i64 0, .int .i64 0, .slice none 0 0] 32)) = W0 at hp0 hr0 ho0 hb0 hs0
  have HP0 := Lib.hid hp0
  have HR0 := Lib.hid hr0
  have HO0 := Lib.hid ho0
  have HB0 := Lib.hid hb0
  clear hp0 hr0 ho0 hb0
  have p0_0 := HP0.out.cell_ 0 (v := .int .i64 g.count) rfl
  have p1_0 := HP0.out.cell_ 1 (v := .int .i64 g.next) rfl
  have p2_0 := HP0.out.cell_ 2 (v := .int .i64 g.round) rfl
  have p3_0 := HP0.out.cell_ 3 (v := .slice A0 g.os.length c0) rfl
  have o0_0 := HO0.out.cell_ 0 (v := .int .i64 0) rfl
  have f0_0 := HO0.out.free 0
  have o1_0 := HO0.out.cell_ 1 (v := .int .i64 0) rfl
  have f1_0 := HO0.out.free 1
  have o2_0 := HO0.out.cell_ 2 (v := .int .i64 0) rfl
  have f2_0 := HO0.out.free 2
  have ho1 : Own (((W0.setCell ⟨w.heap.size + 1 + 1, 0, none⟩ (.int .i64 g.count)).setCell ⟨w.heap.size + 1 + 1, 1, none⟩ (.int .i64 g.next)).setCell ⟨w.heap.size + 1 + 1, 2, none⟩ (.int .i64 g.round)) (w.heap.size + 1 + 1) 32 #[.int .i64 g.count, .int .i64 g.next, .int .i64 g.round, .slice none 0 0] := by simpa using (((HO0.out.set_ 0 (.int .i64 g.count)).set_ 1 (.int .i64 g.next)).set_ 2 (.int .i64 g.round))
  have hp1 := (((HP0.out.far (p := ⟨w.heap.size + 1 + 1, 0, none⟩) (u := .int .i64 g.count) (by show _ ≠ w.heap.size + 1 + 1; omega)).far (p := ⟨w.heap.size + 1 + 1, 1, none⟩) (u := .int .i64 g.next) (by show _ ≠ w.heap.size + 1 + 1; omega)).far (p := ⟨w.heap.size + 1 + 1, 2, none⟩) (u := .int .i64 g.round) (by show _ ≠ w.heap.size + 1 + 1; omega))
  have hr1 := (((HR0.out.far (p := ⟨w.heap.size + 1 + 1, 0, none⟩) (u := .int .i64 g.count) (by show _ ≠ w.heap.size + 1 + 1; omega)).far (p := ⟨w.heap.size + 1 + 1, 1, none⟩) (u := .int .i64 g.next) (by show _ ≠ w.heap.size + 1 + 1; omega)).far (p := ⟨w.heap.size + 1 + 1, 2, none⟩) (u := .int .i64 g.round) (by show _ ≠ w.heap.size + 1 + 1; omega))
  have hb1 := (bS ((bS ((bS (HB0.out) (p := ⟨w.heap.size + 1 + 1, 0, none⟩) (u := .int .i64 g.count) (by simp <;> omega))) (p := ⟨w.heap.size + 1 + 1, 1, none⟩) (u := .int .i64 g.next) (by simp <;> omega))) (p := ⟨w.heap.size + 1 + 1, 2, none⟩) (u := .int .i64 g.round) (by simp <;> omega))
  have hs1 : w.heap.size + 3 ≤ (((W0.setCell ⟨w.heap.size + 1 + 1, 0, none⟩ (.int .i64 g.count)).setCell ⟨w.heap.size + 1 + 1, 1, none⟩ (.int .i64 g.next)).setCell ⟨w.heap.size + 1 + 1, 2, none⟩ (.int .i64 g.round)).heap.size := by simpa using hs0
  generalize hW1 : (((W0.setCell ⟨w.heap.size + 1 + 1, 0, none⟩ (.int .i64 g.count)).setCell ⟨w.heap.size + 1 + 1, 1, none⟩ (.int .i64 g.next)).setCell ⟨w.heap.size + 1 + 1, 2, none⟩ (.int .i64 g.round)) = W1 at hp1 hr1 ho1 hb1 hs1
  have HP1 := Lib.hid hp1
  have HR1 := Lib.hid hr1
  have HO1 := Lib.hid ho1
  have HB1 := Lib.hid hb1
  clear hp1 hr1 ho1 hb1
  have p0_1 := HP1.out.cell_ 0 (v := .int .i64 g.count) rfl
  have p1_1 := HP1.out.cell_ 1 (v := .int .i64 g.next) rfl
  have p2_1 := HP1.out.cell_ 2 (v := .int .i64 g.round) rfl
  have p3_1 := HP1.out.cell_ 3 (v := .slice A0 g.os.length c0) rfl
  go_enter Tryz.func84, Tryz.ntmps84
  go_wp2_with fail
  refine (toOwnS_any A0 c0 g.os _ (hR0.now (Nat.le_refl _) HB1.out) hl).mono ?_
  rintro e W2 ⟨rfl, he_, hb_⟩
  have hp2 := HP1.out.below hb_
  have hr2 := HR1.out.below hb_
  have ho2 := HO1.out.below hb_
  have hb2 := bT HB1.out hb_
  have hs2 := Nat.le_trans hs1 hb_.size
  have HM0_2 : Hid (SlM owE 155 (w.heap.size + 3) W2 (.slice (some ⟨W1.heap.size, 0, none⟩) g.os.length g.os.length) g.os) := he_.slm hs1 (by unfold maxLen; omega)
  clear hb_ he_ p0_0 p1_0 p2_0 p3_0 o0_0 f0_0 o1_0 f1_0 o2_0 f2_0 p0_1 p1_1 p2_1 p3_1
  have HP2 := Lib.hid hp2
  have HR2 := Lib.hid hr2
  have HO2 := Lib.hid ho2
  have HB2 := Lib.hid hb2
  clear hp2 hr2 ho2 hb2
  have p0_2 := HP2.out.cell_ 0 (v := .int .i64 g.count) rfl
  have p1_2 := HP2.out.cell_ 1 (v := .int .i64 g.next) rfl
  have p2_2 := HP2.out.cell_ 2 (v := .int .i64 g.round) rfl
  have p3_2 := HP2.out.cell_ 3 (v := .slice A0 g.os.length c0) rfl
  have o0_2 := HO2.out.cell_ 0 (v := .int .i64 g.count) rfl
  have f0_2 := HO2.out.free 0
  have o1_2 := HO2.out.cell_ 1 (v := .int .i64 g.next) rfl
  have f1_2 := HO2.out.free 1
  have o2_2 := HO2.out.cell_ 2 (v := .int .i64 g.round) rfl
  have f2_2 := HO2.out.free 2
  have o3_2 := HO2.out.cell_ 3 (v := .slice none 0 0) rfl
  have f3_2 := HO2.out.free 3
  have r0_2 := HR2.out.cell_ 0 (v := .int .i64 0) rfl
  have q0_2 := HR2.out.free 0
  have r1_2 := HR2.out.cell_ 1 (v := .int .i64 0) rfl
  have q1_2 := HR2.out.free 1
  have r2_2 := HR2.out.cell_ 2 (v := .int .i64 0) rfl
  have q2_2 := HR2.out.free 2
  have r3_2 := HR2.out.cell_ 3 (v := .slice none 0 0) rfl
  have q3_2 := HR2.out.free 3
  go_wp2
  have o3 := (((((HR2.out.far (p := ⟨w.heap.size + 1 + 1, 3, none⟩) (u := .slice (some ⟨W1.heap.size, 0, none⟩) g.os.length g.os.length) (by simp)).set_ 0 (.int .i64 g.count)).set_ 1 (.int .i64 g.next)).set_ 2 (.int .i64 g.round)).set_ 3 (.slice (some ⟨W1.heap.size, 0, none⟩) g.os.length g.os.length))
  have t0 := o3.cell_ 0 (v := .int .i64 g.count) (by simp)
  have t1 := o3.cell_ 1 (v := .int .i64 g.next) (by simp)
  have t2 := o3.cell_ 2 (v := .int .i64 g.round) (by simp)
  have t3 := o3.cell_ 3 (v := .slice (some ⟨W1.heap.size, 0, none⟩) g.os.length g.os.length) (by simp)
  refine bodyPost_ret (v := .agg #[.int .i64 g.count, .int .i64 g.next, .int .i64 g.round, .slice (some ⟨W1.heap.size, 0, none⟩) g.os.length g.os.length]) (by simp [results, Tryz.results84, go_sem, t0, t1, t2, t3]) rfl ⟨_, rfl, .slice (some ⟨W1.heap.size, 0, none⟩) g.os.length g.os.length, rfl, ?_, ?_⟩
  · refine SlM.mono (base' := w.heap.size) (base := w.heap.size + 3) ?_ (by omega)
    repeat (refine SlM.far ?_ (by show _ < w.heap.size + 3; simp))
    exact HM0_2.out
  · repeat (refine bS ?_ (by simp <;> omega))
    exact HB2.out

set_option maxHeartbeats 2000000 in
theorem toTable_any (vb vf : Value) (t : Tab) (w : World) (hT : TaR w vb vf t) (hl : t.bs.length ≤ 1048576) (hl2 : t.fs.length ≤ 1048576) :
    Calls Tryz.prog 82 #[.agg #[vb, vf]] w (Post2 fun v w' => ∃ v1 v2, v = .agg #[v1, v2] ∧ SlM intE 3 w.heap.size w' v1 t.bs ∧ SlM frE 48 w.heap.size w' v2 t.fs ∧ Below w.heap.size w w') := by
  obtain ⟨⟨A0, c0, rfl, _, _, hR0⟩, ⟨A1, c1, rfl, _, _, hR1⟩⟩ := hT
  have hp0 := ((Own.new_ w 61 #[.slice A0 t.bs.length c0, .slice A1 t.fs.length c1]).alloc (o := .cells #[.slice none 0 0, .slice none 0 0] 26)).alloc (o := .cells #[.slice none 0 0, .slice none 0 0] 26)
  have hr0 := (ownAt (W := (w.alloc (.cells #[.slice A0 t.bs.length c0, .slice A1 t.fs.length c1] 61))) (g := w.heap.size + 1) (t := 26) (cs := #[.slice none 0 0, .slice none 0 0]) (by simp)).alloc (o := .cells #[.slice none 0 0, .slice none 0 0] 26)
  have ho0 := ownAt (W := ((w.alloc (.cells #[.slice A0 t.bs.length c0, .slice A1 t.fs.length c1] 61)).alloc (.cells #[.slice none 0 0, .slice none 0 0] 26))) (g := w.heap.size + 1 + 1) (t := 26) (cs := #[.slice none 0 0, .slice none 0 0]) (by simp)
  have hb0 : Below w.heap.size w (((w.alloc (.cells #[.slice A0 t.bs.length c0, .slice A1 t.fs.length c1] 61)).alloc (.cells #[.slice none 0 0, .slice none 0 0] 26)).alloc (.cells #[.slice none 0 0, .slice none 0 0] 26)) := bA (bA (bA bR))
  have hs0 : w.heap.size + 3 ≤ (((w.alloc (.cells #[.slice A0 t.bs.length c0, .slice A1 t.fs.length c1] 61)).alloc (.cells #[.slice none 0 0, .slice none 0 0] 26)).alloc (.cells #[.slice none 0 0, .slice none 0 0] 26)).heap.size := by simp
  generalize hW0 : (((w.alloc (.cells #[.slice A0 t.bs.length c0, .slice A1 t.fs.length c1] 61)).alloc (.cells #[.slice none 0 0, .slice none 0 0] 26)).alloc (.cells #[.slice none 0 0, .slice none 0 0] 26)) = W0 at hp0 hr0 ho0 hb0 hs0
  have HP0 := Lib.hid hp0
  have HR0 := Lib.hid hr0
  have HO0 := Lib.hid ho0
  have HB0 := Lib.hid hb0
  clear hp0 hr0 ho0 hb0
  have p0_0 := HP0.out.cell_ 0 (v := .slice A0 t.bs.length c0) rfl
  have p1_0 := HP0.out.cell_ 1 (v := .slice A1 t.fs.length c1) rfl
  go_enter Tryz.func82, Tryz.ntmps82
  go_wp2_with fail
  refine (toIntS_any A0 c0 t.bs _ (hR0.now (Nat.le_refl _) HB0.out) hl).mono ?_
  rintro e W1 ⟨rfl, he_, hb_⟩
  have hp1 := HP0.out.below hb_
  have hr1 := HR0.out.below hb_
  have ho1 := HO0.out.below hb_
  have hb1 := bT HB0.out hb_
  have hs1 := Nat.le_trans hs0 hb_.size
  have HM0_1 : Hid (SlM intE 3 (w.heap.size + 3) W1 (.slice (some ⟨W0.heap.size, 0, none⟩) t.bs.length t.bs.length) t.bs) := he_.slm hs0 (by unfold maxLen; omega)
  clear hb_ he_ p0_0 p1_0
  have HP1 := Lib.hid hp1
  have HR1 := Lib.hid hr1
  have HO1 := Lib.hid ho1
  have HB1 := Lib.hid hb1
  clear hp1 hr1 ho1 hb1
  have p0_1 := HP1.out.cell_ 0 (v := .slice A0 t.bs.length c0) rfl
  have p1_1 := HP1.out.cell_ 1 (v := .slice A1 t.fs.length c1) rfl
  have o0_1 := HO1.out.cell_ 0 (v := .slice none 0 0) rfl
  have f0_1 := HO1.out.free 0
  have ho2 : Own (W1.setCell ⟨w.heap.size + 1 + 1, 0, none⟩ (.slice (some ⟨W0.heap.size, 0, none⟩) t.bs.length t.bs.length)) (w.heap.size + 1 + 1) 26 #[.slice (some ⟨W0.heap.size, 0, none⟩) t.bs.length t.bs.length, .slice none 0 0] := by simpa using (HO1.out.set_ 0 (.slice (some ⟨W0.heap.size, 0, none⟩) t.bs.length t.bs.length))
  have hp2 := (HP1.out.far (p := ⟨w.heap.size + 1 + 1, 0, none⟩) (u := .slice (some ⟨W0.heap.size, 0, none⟩) t.bs.length t.bs.length) (by show _ ≠ w.heap.size + 1 + 1; omega))
  have hr2 := (HR1.out.far (p := ⟨w.heap.size + 1 + 1, 0, none⟩) (u := .slice (some ⟨W0.heap.size, 0, none⟩) t.bs.length t.bs.length) (by show _ ≠ w.heap.size + 1 + 1; omega))
  have hb2 := (bS (HB1.out) (p := ⟨w.heap.size + 1 + 1, 0, none⟩) (u := .slice (some ⟨W0.heap.size, 0, none⟩) t.bs.length t.bs.length) (by simp <;> omega))
  have hs2 : w.heap.size + 3 ≤ (W1.setCell ⟨w.heap.size + 1 + 1, 0, none⟩ (.slice (some ⟨W0.heap.size, 0, none⟩) t.bs.length t.bs.length)).heap.size := by simpa using hs1
  have hm0_2 := (HM0_1.out.far (p := ⟨w.heap.size + 1 + 1, 0, none⟩) (u := .slice (some ⟨W0.heap.size, 0, none⟩) t.bs.length t.bs.length) (by show w.heap.size + 1 + 1 < w.heap.size + 3; omega))
  generalize hW2 : (W1.setCell ⟨w.heap.size + 1 + 1, 0, none⟩ (.slice (some ⟨W0.heap.size, 0, none⟩) t.bs.length t.bs.length)) = W2 at hp2 hr2 ho2 hb2 hs2 hm0_2
  have HP2 := Lib.hid hp2
  have HR2 := Lib.hid hr2
  have HO2 := Lib.hid ho2
  have HB2 := Lib.hid hb2
  clear hp2 hr2 ho2 hb2
  have HM0_2 := Lib.hid hm0_2
  clear hm0_2
  have p0_2 := HP2.out.cell_ 0 (v := .slice A0 t.bs.length c0) rfl
  have p1_2 := HP2.out.cell_ 1 (v := .slice A1 t.fs.length c1) rfl
  go_wp2_with fail
  refine (toFrameS_any A1 c1 t.fs _ (hR1.now (Nat.le_refl _) HB2.out) hl2).mono ?_
  rintro e W3 ⟨rfl, he_, hb_⟩
  have hp3 := HP2.out.below hb_
  have hr3 := HR2.out.below hb_
  have ho3 := HO2.out.below hb_
  have hb3 := bT HB2.out hb_
  have hs3 := Nat.le_trans hs2 hb_.size
  have HM0_3 := Lib.hid (HM0_2.out.now hb_)
  have HM1_3 : Hid (SlM frE 48 (w.heap.size + 3) W3 (.slice (some ⟨W2.heap.size, 0, none⟩) t.fs.length t.fs.length) t.fs) := he_.slm hs2 (by unfold maxLen; omega)
  clear hb_ he_ p0_1 p1_1 o0_1 f0_1 p0_2 p1_2
  have HP3 := Lib.hid hp3
  have HR3 := Lib.hid hr3
  have HO3 := Lib.hid ho3
  have HB3 := Lib.hid hb3
  clear hp3 hr3 ho3 hb3
  have p0_3 := HP3.out.cell_ 0 (v := .slice A0 t.bs.length c0) rfl
  have p1_3 := HP3.out.cell_ 1 (v := .slice A1 t.fs.length c1) rfl
  have o0_3 := HO3.out.cell_ 0 (v := .slice (some ⟨W0.heap.size, 0, none⟩) t.bs.length t.bs.length) rfl
  have f0_3 := HO3.out.free 0
  have o1_3 := HO3.out.cell_ 1 (v := .slice none 0 0) rfl
  have f1_3 := HO3.out.free 1
  have r0_3 := HR3.out.cell_ 0 (v := .slice none 0 0) rfl
  have q0_3 := HR3.out.free 0
  have r1_3 := HR3.out.cell_ 1 (v := .slice none 0 0) rfl
  have q1_3 := HR3.out.free 1
  go_wp2
  have o3 := (((HR3.out.far (p := ⟨w.heap.size + 1 + 1, 1, none⟩) (u := .slice (some ⟨W2.heap.size, 0, none⟩) t.fs.length t.fs.length) (by simp)).set_ 0 (.slice (some ⟨W0.heap.size, 0, none⟩) t.bs.length t.bs.length)).set_ 1 (.slice (some ⟨W2.heap.size, 0, none⟩) t.fs.length t.fs.length))
  have t0 := o3.cell_ 0 (v := .slice (some ⟨W0.heap.size, 0, none⟩) t.bs.length t.bs.length) (by simp)
  have t1 := o3.cell_ 1 (v := .slice (some ⟨W2.heap.size, 0, none⟩) t.fs.length t.fs.length) (by simp)
  refine bodyPost_ret (v := .agg #[.slice (some ⟨W0.heap.size, 0, none⟩) t.bs.length t.bs.length, .slice (some ⟨W2.heap.size, 0, none⟩) t.fs.length t.fs.length]) (by simp [results, Tryz.results82, go_sem, t0, t1]) rfl ⟨_, rfl, .slice (some ⟨W0.heap.size, 0, none⟩) t.bs.length t.bs.length, .slice (some ⟨W2.heap.size, 0, none⟩) t.fs.length t.fs.length, rfl, ?_, ?_, ?_⟩
  · refine SlM.mono (base' := w.heap.size) (base := w.heap.size + 3) ?_ (by omega)
    repeat (refine SlM.far ?_ (by show _ < w.heap.size + 3; simp))
    exact HM0_3.out
  · refine SlM.mono (base' := w.heap.size) (base := w.heap.size + 3) ?_ (by omega)
    repeat (refine SlM.far ?_ (by show _ < w.heap.size + 3; simp))
    exact HM1_3.out
  · repeat (refine bS ?_ (by simp <;> omega))
    exact HB3.out

set_option maxHeartbeats 2000000 in
theorem toMachine_any (vb vf vl vo : Value) (m : Ma) (w : World) (hM : MaR w vb vf vl vo m) (h1 : m.t.bs.length ≤ 1048576) (h2 : m.t.fs.length ≤ 1048576) (h3 : m.c.ls.length ≤ 1048576) (h4 : m.g.os.length ≤ 1048576) :
    Calls Tryz.prog 31 #[.agg #[vb, vf, vl, .int .i64 m.c.hand, .int .i64 m.g.count, .int .i64 m.g.next, .int .i64 m.g.round, vo, .int .i64 m.sp]] w (Post2 fun v w' => ∃ v1 v2 v3 v4, v = .agg #[v1, v2, v3, .int .i64 m.c.hand, .int .i64 m.g.count, .int .i64 m.g.next, .int .i64 m.g.round, v4, .int .i64 m.sp] ∧ MaM w.heap.size w' v1 v2 v3 v4 m ∧ Below w.heap.size w w') := by
  obtain ⟨⟨⟨A0, c0, rfl, ha0, ha0', hR0⟩, ⟨A1, c1, rfl, ha1, ha1', hR1⟩⟩, ⟨A2, c2, rfl, ha2, ha2', hR2⟩, ⟨A3, c3, rfl, ha3, ha3', hR3⟩⟩ := hM
  have hMt : TaR w (.slice A0 m.t.bs.length c0) (.slice A1 m.t.fs.length c1) m.t := ⟨⟨A0, c0, rfl, ha0, ha0', hR0⟩, ⟨A1, c1, rfl, ha1, ha1', hR1⟩⟩
  have hMl : SlR lnE w (.slice A2 m.c.ls.length c2) m.c.ls := ⟨A2, c2, rfl, ha2, ha2', hR2⟩
  have hMo : SlR owE w (.slice A3 m.g.os.length c3) m.g.os := ⟨A3, c3, rfl, ha3, ha3', hR3⟩
  clear ha0 ha0' hR0 ha1 ha1' hR1 ha2 ha2' hR2 ha3 ha3' hR3
  have hp0 := ((Own.new_ w 69 #[.slice A0 m.t.bs.length c0, .slice A1 m.t.fs.length c1, .slice A2 m.c.ls.length c2, .int .i64 m.c.hand, .int .i64 m.g.count, .int .i64 m.g.next, .int .i64 m.g.round, .slice A3 m.g.os.length c3, .int .i64 m.sp]).alloc (o := .cells #[.slice none 0 0, .slice none 0 0, .slice none 0 0, .int .i64 0, .int .i64 0, .int .i64 0, .int .i64 0, .slice none 0 0, .int .i64 0] 34)).alloc (o := .cells #[.slice none 0 0, .slice none 0 0, .slice none 0 0, .int .i64 0, .int .i64 0, .int .i64 0, .int .i64 0, .slice none 0 0, .int .i64 0] 34)
  have hr0 := (ownAt (W := (w.alloc (.cells #[.slice A0 m.t.bs.length c0, .slice A1 m.t.fs.length c1, .slice A2 m.c.ls.length c2, .int .i64 m.c.hand, .int .i64 m.g.count, .int .i64 m.g.next, .int .i64 m.g.round, .slice A3 m.g.os.length c3, .int .i64 m.sp] 69))) (g := w.heap.size + 1) (t := 34) (cs := #[.slice none 0 0, .slice none 0 0, .slice none 0 0, .int .i64 0, .int .i64 0, .int .i64 0, .int .i64 0, .slice none 0 0, .int .i64 0]) (by simp)).alloc (o := .cells #[.slice none 0 0, .slice none 0 0, .slice none 0 0, .int .i64 0, .int .i64 0, .int .i64 0, .int .i64 0, .slice none 0 0, .int .i64 0] 34)
  have ho0 := ownAt (W := ((w.alloc (.cells #[.slice A0 m.t.bs.length c0, .slice A1 m.t.fs.length c1, .slice A2 m.c.ls.length c2, .int .i64 m.c.hand, .int .i64 m.g.count, .int .i64 m.g.next, .int .i64 m.g.round, .slice A3 m.g.os.length c3, .int .i64 m.sp] 69)).alloc (.cells #[.slice none 0 0, .slice none 0 0, .slice none 0 0, .int .i64 0, .int .i64 0, .int .i64 0, .int .i64 0, .slice none 0 0, .int .i64 0] 34))) (g := w.heap.size + 1 + 1) (t := 34) (cs := #[.slice none 0 0, .slice none 0 0, .slice none 0 0, .int .i64 0, .int .i64 0, .int .i64 0, .int .i64 0, .slice none 0 0, .int .i64 0]) (by simp)
  have hb0 : Below w.heap.size w (((w.alloc (.cells #[.slice A0 m.t.bs.length c0, .slice A1 m.t.fs.length c1, .slice A2 m.c.ls.length c2, .int .i64 m.c.hand, .int .i64 m.g.count, .int .i64 m.g.next, .int .i64 m.g.round, .slice A3 m.g.os.length c3, .int .i64 m.sp] 69)).alloc (.cells #[.slice none 0 0, .slice none 0 0, .slice none 0 0, .int .i64 0, .int .i64 0, .int .i64 0, .int .i64 0, .slice none 0 0, .int .i64 0] 34)).alloc (.cells #[.slice none 0 0, .slice none 0 0, .slice none 0 0, .int .i64 0, .int .i64 0, .int .i64 0, .int .i64 0, .slice none 0 0, .int .i64 0] 34)) := bA (bA (bA bR))
  have hs0 : w.heap.size + 3 ≤ (((w.alloc (.cells #[.slice A0 m.t.bs.length c0, .slice A1 m.t.fs.length c1, .slice A2 m.c.ls.length c2, .int .i64 m.c.hand, .int .i64 m.g.count, .int .i64 m.g.next, .int .i64 m.g.round, .slice A3 m.g.os.length c3, .int .i64 m.sp] 69)).alloc (.cells #[.slice none 0 0, .slice none 0 0, .slice none 0 0, .int .i64 0, .int .i64 0, .int .i64 0, .int .i64 0, .slice none 0 0, .int .i64 0] 34)).alloc (.cells #[.slice none 0 0, .slice none 0 0, .slice none 0 0, .int .i64 0, .int .i64 0, .int .i64 0, .int .i64 0, .slice none 0 0, .int .i64 0] 34)).heap.size := by simp
  generalize hW0 : (((w.alloc (.cells #[.slice A0 m.t.bs.length c0, .slice A1 m.t.fs.length c1, .slice A2 m.c.ls.length c2, .int .i64 m.c.hand, .int .i64 m.g.count, .int .i64 m.g.next, .int .i64 m.g.round, .slice A3 m.g.os.length c3, .int .i64 m.sp] 69)).alloc (.cells #[.slice none 0 0, .slice none 0 0, .slice none 0 0, .int .i64 0, .int .i64 0, .int .i64 0, .int .i64 0, .slice none 0 0, .int .i64 0] 34)).alloc (.cells #[.slice none 0 0, .slice none 0 0, .slice none 0 0, .int .i64 0, .int .i64 0, .int .i64 0, .int .i64 0, .slice none 0 0, .int .i64 0] 34)) = W0 at hp0 hr0 ho0 hb0 hs0
  have HP0 := Lib.hid hp0
  have HR0 := Lib.hid hr0
  have HO0 := Lib.hid ho0
  have HB0 := Lib.hid hb0
  clear hp0 hr0 ho0 hb0
  have p0_0 := HP0.out.cell_ 0 (v := .slice A0 m.t.bs.length c0) rfl
  have p1_0 := HP0.out.cell_ 1 (v := .slice A1 m.t.fs.length c1) rfl
  have p2_0 := HP0.out.cell_ 2 (v := .slice A2 m.c.ls.length c2) rfl
  have p3_0 := HP0.out.cell_ 3 (v := .int .i64 m.c.hand) rfl
  have p4_0 := HP0.out.cell_ 4 (v := .int .i64 m.g.count) rfl
  have p5_0 := HP0.out.cell_ 5 (v := .int .i64 m.g.next) rfl
  have p6_0 := HP0.out.cell_ 6 (v := .int .i64 m.g.round) rfl
  have p7_0 := HP0.out.cell_ 7 (v := .slice A3 m.g.os.length c3) rfl
  have p8_0 := HP0.out.cell_ 8 (v := .int .i64 m.sp) rfl
  go_enter Tryz.func31, Tryz.ntmps31
  go_wp2_with fail
  refine (toTable_any _ _ m.t _ (hMt.now HB0.out) h1 h2).mono ?_
  rintro e W1 ⟨_, rfl, v1, v2, rfl, hT_, he_, hb_⟩
  obtain ⟨B0, d0, rfl, hd0, hd0', he0⟩ := hT_
  obtain ⟨B1, d1, rfl, hd1, hd1', he1⟩ := he_
  have he_ := trivial
  have hp1 := HP0.out.below hb_
  have hr1 := HR0.out.below hb_
  have ho1 := HO0.out.below hb_
  have hb1 := bT HB0.out hb_
  have hs1 := Nat.le_trans hs0 hb_.size
  have HM0_1 : Hid (TaM (w.heap.size + 3) W1 (.slice B0 m.t.bs.length d0) (.slice B1 m.t.fs.length d1) m.t) := ⟨(slm_of rfl hd0 hd0' he0).mono hs0, (slm_of rfl hd1 hd1' he1).mono hs0⟩
  clear hb_ he_ p0_0 p1_0 p2_0 p3_0 p4_0 p5_0 p6_0 p7_0 p8_0
  have HP1 := Lib.hid hp1
  have HR1 := Lib.hid hr1
  have HO1 := Lib.hid ho1
  have HB1 := Lib.hid hb1
  clear hp1 hr1 ho1 hb1
  have p0_1 := HP1.out.cell_ 0 (v := .slice A0 m.t.bs.length c0) rfl
  have p1_1 := HP1.out.cell_ 1 (v := .slice A1 m.t.fs.length c1) rfl
  have p2_1 := HP1.out.cell_ 2 (v := .slice A2 m.c.ls.length c2) rfl
  have p3_1 := HP1.out.cell_ 3 (v := .int .i64 m.c.hand) rfl
  have p4_1 := HP1.out.cell_ 4 (v := .int .i64 m.g.count) rfl
  have p5_1 := HP1.out.cell_ 5 (v := .int .i64 m.g.next) rfl
  have p6_1 := HP1.out.cell_ 6 (v := .int .i64 m.g.round) rfl
  have p7_1 := HP1.out.cell_ 7 (v := .slice A3 m.g.os.length c3) rfl
  have p8_1 := HP1.out.cell_ 8 (v := .int .i64 m.sp) rfl
  have o0_1 := HO1.out.cell_ 0 (v := .slice none 0 0) rfl
  have f0_1 := HO1.out.free 0
  have o1_1 := HO1.out.cell_ 1 (v := .slice none 0 0) rfl
  have f1_1 := HO1.out.free 1
  have ho2 : Own ((W1.setCell ⟨w.heap.size + 1 + 1, 0, none⟩ (.slice B0 m.t.bs.length d0)).setCell ⟨w.heap.size + 1 + 1, 1, none⟩ (.slice B1 m.t.fs.length d1)) (w.heap.size + 1 + 1) 34 #[.slice B0 m.t.bs.length d0, .slice B1 m.t.fs.length d1, .slice none 0 0, .int .i64 0, .int .i64 0, .int .i64 0, .int .i64 0, .slice none 0 0, .int .i64 0] := by simpa using ((HO1.out.set_ 0 (.slice B0 m.t.bs.length d0)).set_ 1 (.slice B1 m.t.fs.length d1))
  have hp2 := ((HP1.out.far (p := ⟨w.heap.size + 1 + 1, 0, none⟩) (u := .slice B0 m.t.bs.length d0) (by show _ ≠ w.heap.size + 1 + 1; omega)).far (p := ⟨w.heap.size + 1 + 1, 1, none⟩) (u := .slice B1 m.t.fs.length d1) (by show _ ≠ w.heap.size + 1 + 1; omega))
  have hr2 := ((HR1.out.far (p := ⟨w.heap.size + 1 + 1, 0, none⟩) (u := .slice B0 m.t.bs.length d0) (by show _ ≠ w.heap.size + 1 + 1; omega)).far (p := ⟨w.heap.size + 1 + 1, 1, none⟩) (u := .slice B1 m.t.fs.length d1) (by show _ ≠ w.heap.size + 1 + 1; omega))
  have hb2 := (bS ((bS (HB1.out) (p := ⟨w.heap.size + 1 + 1, 0, none⟩) (u := .slice B0 m.t.bs.length d0) (by simp <;> omega))) (p := ⟨w.heap.size + 1 + 1, 1, none⟩) (u := .slice B1 m.t.fs.length d1) (by simp <;> omega))
  have hs2 : w.heap.size + 3 ≤ ((W1.setCell ⟨w.heap.size + 1 + 1, 0, none⟩ (.slice B0 m.t.bs.length d0)).setCell ⟨w.heap.size + 1 + 1, 1, none⟩ (.slice B1 m.t.fs.length d1)).heap.size := by simpa using hs1
  have hm0_2 := ((HM0_1.out.far (p := ⟨w.heap.size + 1 + 1, 0, none⟩) (u := .slice B0 m.t.bs.length d0) (by show w.heap.size + 1 + 1 < w.heap.size + 3; omega)).far (p := ⟨w.heap.size + 1 + 1, 1, none⟩) (u := .slice B1 m.t.fs.length d1) (by show w.heap.size + 1 + 1 < w.heap.size + 3; omega))
  generalize hW2 : ((W1.setCell ⟨w.heap.size + 1 + 1, 0, none⟩ (.slice B0 m.t.bs.length d0)).setCell ⟨w.heap.size + 1 + 1, 1, none⟩ (.slice B1 m.t.fs.length d1)) = W2 at hp2 hr2 ho2 hb2 hs2 hm0_2
  have HP2 := Lib.hid hp2
  have HR2 := Lib.hid hr2
  have HO2 := Lib.hid ho2
  have HB2 := Lib.hid hb2
  clear hp2 hr2 ho2 hb2
  have HM0_2 := Lib.hid hm0_2
  clear hm0_2
  have p0_2 := HP2.out.cell_ 0 (v := .slice A0 m.t.bs.length c0) rfl
  have p1_2 := HP2.out.cell_ 1 (v := .slice A1 m.t.fs.length c1) rfl
  have p2_2 := HP2.out.cell_ 2 (v := .slice A2 m.c.ls.length c2) rfl
  have p3_2 := HP2.out.cell_ 3 (v := .int .i64 m.c.hand) rfl
  have p4_2 := HP2.out.cell_ 4 (v := .int .i64 m.g.count) rfl
  have p5_2 := HP2.out.cell_ 5 (v := .int .i64 m.g.next) rfl
  have p6_2 := HP2.out.cell_ 6 (v := .int .i64 m.g.round) rfl
  have p7_2 := HP2.out.cell_ 7 (v := .slice A3 m.g.os.length c3) rfl
  have p8_2 := HP2.out.cell_ 8 (v := .int .i64 m.sp) rfl
  go_wp2_with fail
  refine (toCache_any _ m.c _ (hMl.now HB2.out) h3).mono ?_
  rintro e W3 ⟨_, rfl, v1, rfl, he_, hb_⟩
  obtain ⟨B2, d2, rfl, hd2, hd2', he2⟩ := he_
  have he_ := trivial
  have hp3 := HP2.out.below hb_
  have hr3 := HR2.out.below hb_
  have ho3 := HO2.out.below hb_
  have hb3 := bT HB2.out hb_
  have hs3 := Nat.le_trans hs2 hb_.size
  have HM0_3 := Lib.hid (HM0_2.out.now hb_)
  have HM1_3 : Hid (SlM lnE 106 (w.heap.size + 3) W3 (.slice B2 m.c.ls.length d2) m.c.ls) := (slm_of rfl hd2 hd2' he2).mono hs2
  clear hb_ he_ p0_1 p1_1 p2_1 p3_1 p4_1 p5_1 p6_1 p7_1 p8_1 o0_1 f0_1 o1_1 f1_1 p0_2 p1_2 p2_2 p3_2 p4_2 p5_2 p6_2 p7_2 p8_2
  have HP3 := Lib.hid hp3
  have HR3 := Lib.hid hr3
  have HO3 := Lib.hid ho3
  have HB3 := Lib.hid hb3
  clear hp3 hr3 ho3 hb3
  have p0_3 := HP3.out.cell_ 0 (v := .slice A0 m.t.bs.length c0) rfl
  have p1_3 := HP3.out.cell_ 1 (v := .slice A1 m.t.fs.length c1) rfl
  have p2_3 := HP3.out.cell_ 2 (v := .slice A2 m.c.ls.length c2) rfl
  have p3_3 := HP3.out.cell_ 3 (v := .int .i64 m.c.hand) rfl
  have p4_3 := HP3.out.cell_ 4 (v := .int .i64 m.g.count) rfl
  have p5_3 := HP3.out.cell_ 5 (v := .int .i64 m.g.next) rfl
  have p6_3 := HP3.out.cell_ 6 (v := .int .i64 m.g.round) rfl
  have p7_3 := HP3.out.cell_ 7 (v := .slice A3 m.g.os.length c3) rfl
  have p8_3 := HP3.out.cell_ 8 (v := .int .i64 m.sp) rfl
  have o2_3 := HO3.out.cell_ 2 (v := .slice none 0 0) rfl
  have f2_3 := HO3.out.free 2
  have o3_3 := HO3.out.cell_ 3 (v := .int .i64 0) rfl
  have f3_3 := HO3.out.free 3
  have ho4 : Own ((W3.setCell ⟨w.heap.size + 1 + 1, 2, none⟩ (.slice B2 m.c.ls.length d2)).setCell ⟨w.heap.size + 1 + 1, 3, none⟩ (.int .i64 m.c.hand)) (w.heap.size + 1 + 1) 34 #[.slice B0 m.t.bs.length d0, .slice B1 m.t.fs.length d1, .slice B2 m.c.ls.length d2, .int .i64 m.c.hand, .int .i64 0, .int .i64 0, .int .i64 0, .slice none 0 0, .int .i64 0] := by simpa using ((HO3.out.set_ 2 (.slice B2 m.c.ls.length d2)).set_ 3 (.int .i64 m.c.hand))
  have hp4 := ((HP3.out.far (p := ⟨w.heap.size + 1 + 1, 2, none⟩) (u := .slice B2 m.c.ls.length d2) (by show _ ≠ w.heap.size + 1 + 1; omega)).far (p := ⟨w.heap.size + 1 + 1, 3, none⟩) (u := .int .i64 m.c.hand) (by show _ ≠ w.heap.size + 1 + 1; omega))
  have hr4 := ((HR3.out.far (p := ⟨w.heap.size + 1 + 1, 2, none⟩) (u := .slice B2 m.c.ls.length d2) (by show _ ≠ w.heap.size + 1 + 1; omega)).far (p := ⟨w.heap.size + 1 + 1, 3, none⟩) (u := .int .i64 m.c.hand) (by show _ ≠ w.heap.size + 1 + 1; omega))
  have hb4 := (bS ((bS (HB3.out) (p := ⟨w.heap.size + 1 + 1, 2, none⟩) (u := .slice B2 m.c.ls.length d2) (by simp <;> omega))) (p := ⟨w.heap.size + 1 + 1, 3, none⟩) (u := .int .i64 m.c.hand) (by simp <;> omega))
  have hs4 : w.heap.size + 3 ≤ ((W3.setCell ⟨w.heap.size + 1 + 1, 2, none⟩ (.slice B2 m.c.ls.length d2)).setCell ⟨w.heap.size + 1 + 1, 3, none⟩ (.int .i64 m.c.hand)).heap.size := by simpa using hs3
  have hm0_4 := ((HM0_3.out.far (p := ⟨w.heap.size + 1 + 1, 2, none⟩) (u := .slice B2 m.c.ls.length d2) (by show w.heap.size + 1 + 1 < w.heap.size + 3; omega)).far (p := ⟨w.heap.size + 1 + 1, 3, none⟩) (u := .int .i64 m.c.hand) (by show w.heap.size + 1 + 1 < w.heap.size + 3; omega))
  have hm1_4 := ((HM1_3.out.far (p := ⟨w.heap.size + 1 + 1, 2, none⟩) (u := .slice B2 m.c.ls.length d2) (by show w.heap.size + 1 + 1 < w.heap.size + 3; omega)).far (p := ⟨w.heap.size + 1 + 1, 3, none⟩) (u := .int .i64 m.c.hand) (by show w.heap.size + 1 + 1 < w.heap.size + 3; omega))
  generalize hW4 : ((W3.setCell ⟨w.heap.size + 1 + 1, 2, none⟩ (.slice B2 m.c.ls.length d2)).setCell ⟨w.heap.size + 1 + 1, 3, none⟩ (.int .i64 m.c.hand)) = W4 at hp4 hr4 ho4 hb4 hs4 hm0_4 hm1_4
  have HP4 := Lib.hid hp4
  have HR4 := Lib.hid hr4
  have HO4 := Lib.hid ho4
  have HB4 := Lib.hid hb4
  clear hp4 hr4 ho4 hb4
  have HM0_4 := Lib.hid hm0_4
  clear hm0_4
  have HM1_4 := Lib.hid hm1_4
  clear hm1_4
  have p0_4 := HP4.out.cell_ 0 (v := .slice A0 m.t.bs.length c0) rfl
  have p1_4 := HP4.out.cell_ 1 (v := .slice A1 m.t.fs.length c1) rfl
  have p2_4 := HP4.out.cell_ 2 (v := .slice A2 m.c.ls.length c2) rfl
  have p3_4 := HP4.out.cell_ 3 (v := .int .i64 m.c.hand) rfl
  have p4_4 := HP4.out.cell_ 4 (v := .int .i64 m.g.count) rfl
  have p5_4 := HP4.out.cell_ 5 (v := .int .i64 m.g.next) rfl
  have p6_4 := HP4.out.cell_ 6 (v := .int .i64 m.g.round) rfl
  have p7_4 := HP4.out.cell_ 7 (v := .slice A3 m.g.os.length c3) rfl
  have p8_4 := HP4.out.cell_ 8 (v := .int .i64 m.sp) rfl
  go_wp2_with fail
  refine (toTags_any _ m.g _ (hMo.now HB4.out) h4).mono ?_
  rintro e W5 ⟨_, rfl, v1, rfl, he_, hb_⟩
  obtain ⟨B3, d3, rfl, hd3, hd3', he3⟩ := he_
  have he_ := trivial
  have hp5 := HP4.out.below hb_
  have hr5 := HR4.out.below hb_
  have ho5 := HO4.out.below hb_
  have hb5 := bT HB4.out hb_
  have hs5 := Nat.le_trans hs4 hb_.size
  have HM0_5 := Lib.hid (HM0_4.out.now hb_)
  have HM1_5 := Lib.hid (HM1_4.out.now hb_)
  have HM2_5 : Hid (SlM owE 155 (w.heap.size + 3) W5 (.slice B3 m.g.os.length d3) m.g.os) := (slm_of rfl hd3 hd3' he3).mono hs4
  clear hb_ he_ p0_3 p1_3 p2_3 p3_3 p4_3 p5_3 p6_3 p7_3 p8_3 o2_3 f2_3 o3_3 f3_3 p0_4 p1_4 p2_4 p3_4 p4_4 p5_4 p6_4 p7_4 p8_4
  have HP5 := Lib.hid hp5
  have HR5 := Lib.hid hr5
  have HO5 := Lib.hid ho5
  have HB5 := Lib.hid hb5
  clear hp5 hr5 ho5 hb5
  have p0_5 := HP5.out.cell_ 0 (v := .slice A0 m.t.bs.length c0) rfl
  have p1_5 := HP5.out.cell_ 1 (v := .slice A1 m.t.fs.length c1) rfl
  have p2_5 := HP5.out.cell_ 2 (v := .slice A2 m.c.ls.length c2) rfl
  have p3_5 := HP5.out.cell_ 3 (v := .int .i64 m.c.hand) rfl
  have p4_5 := HP5.out.cell_ 4 (v := .int .i64 m.g.count) rfl
  have p5_5 := HP5.out.cell_ 5 (v := .int .i64 m.g.next) rfl
  have p6_5 := HP5.out.cell_ 6 (v := .int .i64 m.g.round) rfl
  have p7_5 := HP5.out.cell_ 7 (v := .slice A3 m.g.os.length c3) rfl
  have p8_5 := HP5.out.cell_ 8 (v := .int .i64 m.sp) rfl
  have o0_5 := HO5.out.cell_ 0 (v := .slice B0 m.t.bs.length d0) rfl
  have f0_5 := HO5.out.free 0
  have o1_5 := HO5.out.cell_ 1 (v := .slice B1 m.t.fs.length d1) rfl
  have f1_5 := HO5.out.free 1
  have o2_5 := HO5.out.cell_ 2 (v := .slice B2 m.c.ls.length d2) rfl
  have f2_5 := HO5.out.free 2
  have o3_5 := HO5.out.cell_ 3 (v := .int .i64 m.c.hand) rfl
  have f3_5 := HO5.out.free 3
  have o4_5 := HO5.out.cell_ 4 (v := .int .i64 0) rfl
  have f4_5 := HO5.out.free 4
  have o5_5 := HO5.out.cell_ 5 (v := .int .i64 0) rfl
  have f5_5 := HO5.out.free 5
  have o6_5 := HO5.out.cell_ 6 (v := .int .i64 0) rfl
  have f6_5 := HO5.out.free 6
  have o7_5 := HO5.out.cell_ 7 (v := .slice none 0 0) rfl
  have f7_5 := HO5.out.free 7
  have o8_5 := HO5.out.cell_ 8 (v := .int .i64 0) rfl
  have f8_5 := HO5.out.free 8
  have r0_5 := HR5.out.cell_ 0 (v := .slice none 0 0) rfl
  have q0_5 := HR5.out.free 0
  have r1_5 := HR5.out.cell_ 1 (v := .slice none 0 0) rfl
  have q1_5 := HR5.out.free 1
  have r2_5 := HR5.out.cell_ 2 (v := .slice none 0 0) rfl
  have q2_5 := HR5.out.free 2
  have r3_5 := HR5.out.cell_ 3 (v := .int .i64 0) rfl
  have q3_5 := HR5.out.free 3
  have r4_5 := HR5.out.cell_ 4 (v := .int .i64 0) rfl
  have q4_5 := HR5.out.free 4
  have r5_5 := HR5.out.cell_ 5 (v := .int .i64 0) rfl
  have q5_5 := HR5.out.free 5
  have r6_5 := HR5.out.cell_ 6 (v := .int .i64 0) rfl
  have q6_5 := HR5.out.free 6
  have r7_5 := HR5.out.cell_ 7 (v := .slice none 0 0) rfl
  have q7_5 := HR5.out.free 7
  have r8_5 := HR5.out.cell_ 8 (v := .int .i64 0) rfl
  have q8_5 := HR5.out.free 8
  go_wp2
  have o3 := ((((((((((((((HR5.out.far (p := ⟨w.heap.size + 1 + 1, 4, none⟩) (u := .int .i64 m.g.count) (by simp)).far (p := ⟨w.heap.size + 1 + 1, 5, none⟩) (u := .int .i64 m.g.next) (by simp)).far (p := ⟨w.heap.size + 1 + 1, 6, none⟩) (u := .int .i64 m.g.round) (by simp)).far (p := ⟨w.heap.size + 1 + 1, 7, none⟩) (u := .slice B3 m.g.os.length d3) (by simp)).far (p := ⟨w.heap.size + 1 + 1, 8, none⟩) (u := .int .i64 m.sp) (by simp)).set_ 0 (.slice B0 m.t.bs.length d0)).set_ 1 (.slice B1 m.t.fs.length d1)).set_ 2 (.slice B2 m.c.ls.length d2)).set_ 3 (.int .i64 m.c.hand)).set_ 4 (.int .i64 m.g.count)).set_ 5 (.int .i64 m.g.next)).set_ 6 (.int .i64 m.g.round)).set_ 7 (.slice B3 m.g.os.length d3)).set_ 8 (.int .i64 m.sp))
  have t0 := o3.cell_ 0 (v := .slice B0 m.t.bs.length d0) (by simp)
  have t1 := o3.cell_ 1 (v := .slice B1 m.t.fs.length d1) (by simp)
  have t2 := o3.cell_ 2 (v := .slice B2 m.c.ls.length d2) (by simp)
  have t3 := o3.cell_ 3 (v := .int .i64 m.c.hand) (by simp)
  have t4 := o3.cell_ 4 (v := .int .i64 m.g.count) (by simp)
  have t5 := o3.cell_ 5 (v := .int .i64 m.g.next) (by simp)
  have t6 := o3.cell_ 6 (v := .int .i64 m.g.round) (by simp)
  have t7 := o3.cell_ 7 (v := .slice B3 m.g.os.length d3) (by simp)
  have t8 := o3.cell_ 8 (v := .int .i64 m.sp) (by simp)
  refine bodyPost_ret (v := .agg #[.slice B0 m.t.bs.length d0, .slice B1 m.t.fs.length d1, .slice B2 m.c.ls.length d2, .int .i64 m.c.hand, .int .i64 m.g.count, .int .i64 m.g.next, .int .i64 m.g.round, .slice B3 m.g.os.length d3, .int .i64 m.sp]) (by simp [results, Tryz.results31, go_sem, t0, t1, t2, t3, t4, t5, t6, t7, t8]) rfl ⟨_, rfl, .slice B0 m.t.bs.length d0, .slice B1 m.t.fs.length d1, .slice B2 m.c.ls.length d2, .slice B3 m.g.os.length d3, rfl, ⟨?_, ?_, ?_⟩, ?_⟩
  · refine TaM.mono (B' := w.heap.size) (B := w.heap.size + 3) ?_ (by omega)
    repeat (refine TaM.far ?_ (by show _ < w.heap.size + 3; simp))
    exact HM0_5.out
  · refine SlM.mono (base' := w.heap.size) (base := w.heap.size + 3) ?_ (by omega)
    repeat (refine SlM.far ?_ (by show _ < w.heap.size + 3; simp))
    exact HM1_5.out
  · refine SlM.mono (base' := w.heap.size) (base := w.heap.size + 3) ?_ (by omega)
    repeat (refine SlM.far ?_ (by show _ < w.heap.size + 3; simp))
    exact HM2_5.out
  · repeat (refine bS ?_ (by simp <;> omega))
    exact HB5.out

end Go.Proofs.YtnaagdmaggdbmaaGreatDoor
namespace Go.Proofs.YtnaagdmaggdbmaaGreatDoor
open Go.RowKit
set_option maxRecDepth 1000000
theorem szTable_any (A A' : Option Addr) (c c' : Nat) (n n' : Nat) (left : Int) (w : World) (hn : n ≤ 9223372036854775807) (hn' : n' ≤ 9223372036854775807) (h0 : 0 ≤ left) (h1 : left ≤ 1048576) :
    Calls Tryz.prog 79 #[.agg #[.slice A n c, .slice A' n' c'], .int .i64 left] w fun r w' => r = .returned (.int .i64 (if left < (n : Int) + n' then -1 else left - n - n')) ∧ Below w.heap.size w w' := by
  by_cases ha : left - (n : Int) < 0
  · have hs : left < (n : Int) + n' := by omega
    rw [if_pos hs]
    go_enter Tryz.func79, Tryz.ntmps79
    go_wp2_with fail
    refine (szIntS_any _ _ _ _ _ hn h0 h1).mono ?_
    rintro e _ ⟨rfl, rfl⟩
    rw [if_pos ha]
    go_wp2
    go_ret
    exact ⟨rfl, bA bR⟩
  · by_cases hb : left - (n : Int) - n' < 0
    · have hs : left < (n : Int) + n' := by omega
      rw [if_pos hs]
      go_enter Tryz.func79, Tryz.ntmps79
      go_wp2_with fail
      refine (szIntS_any _ _ _ _ _ hn h0 h1).mono ?_
      rintro e _ ⟨rfl, rfl⟩
      rw [if_neg (show ¬ left - (n : Int) < 0 by omega)]
      go_wp2_with fail
      refine (szFrameS_any _ _ _ _ _ hn' (by omega) (by omega)).mono ?_
      rintro e _ ⟨rfl, rfl⟩
      rw [if_pos hb]
      go_wp2
      go_ret
      exact ⟨rfl, bA bR⟩
    · have hs : ¬ left < (n : Int) + n' := by omega
      rw [if_neg hs]
      go_enter Tryz.func79, Tryz.ntmps79
      go_wp2_with fail
      refine (szIntS_any _ _ _ _ _ hn h0 h1).mono ?_
      rintro e _ ⟨rfl, rfl⟩
      rw [if_neg (show ¬ left - (n : Int) < 0 by omega)]
      go_wp2_with fail
      refine (szFrameS_any _ _ _ _ _ hn' (by omega) (by omega)).mono ?_
      rintro e _ ⟨rfl, rfl⟩
      rw [if_neg (Int.not_lt.2 (by omega))]
      go_wp2
      go_ret
      exact ⟨rfl, bA bR⟩
theorem szCache_any (A : Option Addr) (c : Nat) (n : Nat) (left : Int) (x y z : Int) (w : World) (hn : n ≤ 9223372036854775807) (h0 : 0 ≤ left) (h1 : left ≤ 1048576) :
    Calls Tryz.prog 80 #[.agg #[.slice A n c, .int .i64 x], .int .i64 left] w fun r w' => r = .returned (.int .i64 (if left < (n : Int) then -1 else left - n)) ∧ Below w.heap.size w w' := by
  by_cases ha : left < (n : Int)
  · have ha' : left - (n : Int) < 0 := by omega
    rw [if_pos ha]
    go_enter Tryz.func80, Tryz.ntmps80
    go_wp2_with fail
    refine (szLineS_any _ _ _ _ _ hn h0 h1).mono ?_
    rintro e _ ⟨rfl, rfl⟩
    rw [if_pos ha']
    go_wp2
    go_ret
    exact ⟨rfl, bA bR⟩
  · have ha' : ¬ left - (n : Int) < 0 := by omega
    rw [if_neg ha]
    go_enter Tryz.func80, Tryz.ntmps80
    go_wp2_with fail
    refine (szLineS_any _ _ _ _ _ hn h0 h1).mono ?_
    rintro e _ ⟨rfl, rfl⟩
    rw [if_neg (show ¬ left - (n : Int) < 0 by omega)]
    go_wp2
    go_ret
    exact ⟨rfl, bA bR⟩
theorem szTags_any (A : Option Addr) (c : Nat) (n : Nat) (left : Int) (x y z : Int) (w : World) (hn : n ≤ 9223372036854775807) (h0 : 0 ≤ left) (h1 : left ≤ 1048576) :
    Calls Tryz.prog 81 #[.agg #[.int .i64 x, .int .i64 y, .int .i64 z, .slice A n c], .int .i64 left] w fun r w' => r = .returned (.int .i64 (if left < (n : Int) then -1 else left - n)) ∧ Below w.heap.size w w' := by
  by_cases ha : left < (n : Int)
  · have ha' : left - (n : Int) < 0 := by omega
    rw [if_pos ha]
    go_enter Tryz.func81, Tryz.ntmps81
    go_wp2_with fail
    refine (szOwnS_any _ _ _ _ _ hn h0 h1).mono ?_
    rintro e _ ⟨rfl, rfl⟩
    rw [if_pos ha']
    go_wp2
    go_ret
    exact ⟨rfl, bA bR⟩
  · have ha' : ¬ left - (n : Int) < 0 := by omega
    rw [if_neg ha]
    go_enter Tryz.func81, Tryz.ntmps81
    go_wp2_with fail
    refine (szOwnS_any _ _ _ _ _ hn h0 h1).mono ?_
    rintro e _ ⟨rfl, rfl⟩
    rw [if_neg (show ¬ left - (n : Int) < 0 by omega)]
    go_wp2
    go_ret
    exact ⟨rfl, bA bR⟩
def szOf (a b c d : Nat) : Int := if (1048576 : Int) < a + b + c + d then -1 else 1048576 - a - b - c - d
set_option maxHeartbeats 1000000 in
theorem szMachine_any (A1 A2 A3 A4 : Option Addr) (c1 c2 c3 c4 n1 n2 n3 n4 : Nat) (x y z u s : Int) (w : World) (h1 : n1 ≤ 9223372036854775807) (h2 : n2 ≤ 9223372036854775807) (h3 : n3 ≤ 9223372036854775807) (h4 : n4 ≤ 9223372036854775807) :
    Calls Tryz.prog 30 #[.agg #[.slice A1 n1 c1, .slice A2 n2 c2, .slice A3 n3 c3, .int .i64 x, .int .i64 y, .int .i64 z, .int .i64 u, .slice A4 n4 c4, .int .i64 s], .int .i64 1048576] w fun r w' => r = .returned (.int .i64 (szOf n1 n2 n3 n4)) ∧ Below w.heap.size w w' := by
  by_cases ha : (1048576 : Int) < (n1 : Int) + n2
  · have hs : szOf n1 n2 n3 n4 = -1 := by unfold szOf; rw [if_pos (by omega)]
    rw [hs]
    go_enter Tryz.func30, Tryz.ntmps30
    go_wp2_with fail
    refine (szTable_any _ _ _ _ _ _ _ _ h1 h2 (by omega) (by omega)).mono ?_
    rintro e w1 ⟨rfl, hb1⟩
    rw [if_pos ha]
    have HB := Lib.hid (bT (bA bR) hb1)
    clear hb1
    go_wp2
    go_ret
    exact ⟨rfl, HB.out⟩
  · by_cases hb : (1048576 : Int) - n1 - n2 < n3
    · have hs : szOf n1 n2 n3 n4 = -1 := by unfold szOf; rw [if_pos (by omega)]
      rw [hs]
      go_enter Tryz.func30, Tryz.ntmps30
      go_wp2_with fail
      refine (szTable_any _ _ _ _ _ _ _ _ h1 h2 (by omega) (by omega)).mono ?_
      rintro e w1 ⟨rfl, hb1⟩
      rw [if_neg (Int.not_lt.2 (by omega))]
      have d2 := ((Own.new_ w 69 #[.slice A1 n1 c1, .slice A2 n2 c2, .slice A3 n3 c3, .int .i64 x, .int .i64 y, .int .i64 z, .int .i64 u, .slice A4 n4 c4, .int .i64 s]).below hb1).cell_ 2 (v := .slice A3 n3 c3) rfl
      have d3 := ((Own.new_ w 69 #[.slice A1 n1 c1, .slice A2 n2 c2, .slice A3 n3 c3, .int .i64 x, .int .i64 y, .int .i64 z, .int .i64 u, .slice A4 n4 c4, .int .i64 s]).below hb1).cell_ 3 (v := .int .i64 x) rfl
      have HP := Lib.hid ((Own.new_ w 69 #[.slice A1 n1 c1, .slice A2 n2 c2, .slice A3 n3 c3, .int .i64 x, .int .i64 y, .int .i64 z, .int .i64 u, .slice A4 n4 c4, .int .i64 s]).below hb1)
      have HB := Lib.hid (bT (bA bR) hb1)
      clear hb1
      go_wp2_with fail
      refine (szCache_any _ _ _ _ x 0 0 _ h3 (by omega) (by omega)).mono ?_
      rintro e w2 ⟨rfl, hb2⟩
      rw [if_pos hb]
      have HB2 := Lib.hid (bT HB.out hb2)
      clear hb2
      go_wp2
      go_ret
      exact ⟨rfl, HB2.out⟩
    · by_cases hc : (1048576 : Int) - n1 - n2 - n3 < n4
      · have hs : szOf n1 n2 n3 n4 = -1 := by unfold szOf; rw [if_pos (by omega)]
        rw [hs]
        go_enter Tryz.func30, Tryz.ntmps30
        go_wp2_with fail
        refine (szTable_any _ _ _ _ _ _ _ _ h1 h2 (by omega) (by omega)).mono ?_
        rintro e w1 ⟨rfl, hb1⟩
        rw [if_neg (Int.not_lt.2 (by omega))]
        have d2 := ((Own.new_ w 69 #[.slice A1 n1 c1, .slice A2 n2 c2, .slice A3 n3 c3, .int .i64 x, .int .i64 y, .int .i64 z, .int .i64 u, .slice A4 n4 c4, .int .i64 s]).below hb1).cell_ 2 (v := .slice A3 n3 c3) rfl
        have d3 := ((Own.new_ w 69 #[.slice A1 n1 c1, .slice A2 n2 c2, .slice A3 n3 c3, .int .i64 x, .int .i64 y, .int .i64 z, .int .i64 u, .slice A4 n4 c4, .int .i64 s]).below hb1).cell_ 3 (v := .int .i64 x) rfl
        have HP := Lib.hid ((Own.new_ w 69 #[.slice A1 n1 c1, .slice A2 n2 c2, .slice A3 n3 c3, .int .i64 x, .int .i64 y, .int .i64 z, .int .i64 u, .slice A4 n4 c4, .int .i64 s]).below hb1)
        have HB := Lib.hid (bT (bA bR) hb1)
        clear hb1
        go_wp2_with fail
        refine (szCache_any _ _ _ _ x 0 0 _ h3 (by omega) (by omega)).mono ?_
        rintro e w2 ⟨rfl, hb2⟩
        rw [if_neg (Int.not_lt.2 (by omega))]
        have e4 := (HP.out.below hb2).cell_ 4 (v := .int .i64 y) rfl
        have e5 := (HP.out.below hb2).cell_ 5 (v := .int .i64 z) rfl
        have e6 := (HP.out.below hb2).cell_ 6 (v := .int .i64 u) rfl
        have e7 := (HP.out.below hb2).cell_ 7 (v := .slice A4 n4 c4) rfl
        have HB2 := Lib.hid (bT HB.out hb2)
        clear hb2
        go_wp2_with fail
        refine (szTags_any _ _ _ _ y z u _ h4 (by omega) (by omega)).mono ?_
        rintro e w3 ⟨rfl, hb3⟩
        rw [if_pos hc]
        have HB3 := Lib.hid (bT HB2.out hb3)
        clear hb3
        go_wp2
        go_ret
        exact ⟨rfl, HB3.out⟩
      · have hs : szOf n1 n2 n3 n4 = 1048576 - n1 - n2 - n3 - n4 := by unfold szOf; rw [if_neg (by omega)]
        rw [hs]
        go_enter Tryz.func30, Tryz.ntmps30
        go_wp2_with fail
        refine (szTable_any _ _ _ _ _ _ _ _ h1 h2 (by omega) (by omega)).mono ?_
        rintro e w1 ⟨rfl, hb1⟩
        rw [if_neg (Int.not_lt.2 (by omega))]
        have d2 := ((Own.new_ w 69 #[.slice A1 n1 c1, .slice A2 n2 c2, .slice A3 n3 c3, .int .i64 x, .int .i64 y, .int .i64 z, .int .i64 u, .slice A4 n4 c4, .int .i64 s]).below hb1).cell_ 2 (v := .slice A3 n3 c3) rfl
        have d3 := ((Own.new_ w 69 #[.slice A1 n1 c1, .slice A2 n2 c2, .slice A3 n3 c3, .int .i64 x, .int .i64 y, .int .i64 z, .int .i64 u, .slice A4 n4 c4, .int .i64 s]).below hb1).cell_ 3 (v := .int .i64 x) rfl
        have HP := Lib.hid ((Own.new_ w 69 #[.slice A1 n1 c1, .slice A2 n2 c2, .slice A3 n3 c3, .int .i64 x, .int .i64 y, .int .i64 z, .int .i64 u, .slice A4 n4 c4, .int .i64 s]).below hb1)
        have HB := Lib.hid (bT (bA bR) hb1)
        clear hb1
        go_wp2_with fail
        refine (szCache_any _ _ _ _ x 0 0 _ h3 (by omega) (by omega)).mono ?_
        rintro e w2 ⟨rfl, hb2⟩
        rw [if_neg (Int.not_lt.2 (by omega))]
        have e4 := (HP.out.below hb2).cell_ 4 (v := .int .i64 y) rfl
        have e5 := (HP.out.below hb2).cell_ 5 (v := .int .i64 z) rfl
        have e6 := (HP.out.below hb2).cell_ 6 (v := .int .i64 u) rfl
        have e7 := (HP.out.below hb2).cell_ 7 (v := .slice A4 n4 c4) rfl
        have HB2 := Lib.hid (bT HB.out hb2)
        clear hb2
        go_wp2_with fail
        refine (szTags_any _ _ _ _ y z u _ h4 (by omega) (by omega)).mono ?_
        rintro e w3 ⟨rfl, hb3⟩
        rw [if_neg (Int.not_lt.2 (by omega))]
        have HB3 := Lib.hid (bT HB2.out hb3)
        clear hb3
        go_wp2
        go_ret
        exact ⟨rfl, HB3.out⟩
end Go.Proofs.YtnaagdmaggdbmaaGreatDoor
namespace Go.Proofs.YtnaagdmaggdbmaaGreatDoor
open Go.RowKit
set_option maxRecDepth 1000000
theorem xeq (b : Bool) : (b == b) = true := by simp
theorem xne (b : Bool) : (b != b) = false := by simp
theorem eqKey_same (x y : Int) (w : World) : Calls Tryz.prog 214 #[.agg #[.int .i64 x, .int .i64 y], .agg #[.int .i64 x, .int .i64 y]] w fun r w' => r = .returned (.bool true) ∧ Below w.heap.size w w' := by
  go_enter Tryz.func214, Tryz.ntmps214
  go_wp2
  go_ret
  exact ⟨rfl, bA (bA bR)⟩
theorem eqOwn_same (o : Int × Int) (w : World) : Calls Tryz.prog 208 #[.agg #[.int .i64 o.1, .int .i64 o.2], .agg #[.int .i64 o.1, .int .i64 o.2]] w fun r w' => r = .returned (.bool true) ∧ Below w.heap.size w w' := by
  go_enter Tryz.func208, Tryz.ntmps208
  go_wp2
  go_ret
  exact ⟨rfl, bA (bA bR)⟩
theorem eqLine_same (x : Ln) (w : World) : Calls Tryz.prog 207 #[lnV x, lnV x] w fun r w' => r = .returned (.bool true) ∧ Below w.heap.size w w' := by
  simp only [lnV]
  have q1 := xne x.v
  have q2 := xne x.w
  go_enter Tryz.func207, Tryz.ntmps207
  go_wp2
  go_ret
  exact ⟨rfl, bA (bA bR)⟩
theorem eqFrame_same (f : Fr) (w : World) : Calls Tryz.prog 206 #[frV f, frV f] w fun r w' => r = .returned (.bool true) ∧ Below w.heap.size w w' := by
  simp only [frV]
  have q1 := xne f.used
  have hb0 : Below w.heap.size w ((w.alloc (.cells #[.bool f.used, .int .i64 f.s, .int .i64 f.p, .int .i64 f.r, .int .i64 f.n] 48)).alloc (.cells #[.bool f.used, .int .i64 f.s, .int .i64 f.p, .int .i64 f.r, .int .i64 f.n] 48)) := bA (bA bR)
  have ha := (Own.new_ w 48 #[.bool f.used, .int .i64 f.s, .int .i64 f.p, .int .i64 f.r, .int .i64 f.n]).alloc (o := .cells #[.bool f.used, .int .i64 f.s, .int .i64 f.p, .int .i64 f.r, .int .i64 f.n] 48)
  have hc := ownAt (W := w.alloc (.cells #[.bool f.used, .int .i64 f.s, .int .i64 f.p, .int .i64 f.r, .int .i64 f.n] 48)) (g := w.heap.size + 1) (t := 48) (cs := #[.bool f.used, .int .i64 f.s, .int .i64 f.p, .int .i64 f.r, .int .i64 f.n]) (by simp)
  generalize hW0 : (w.alloc (.cells #[.bool f.used, .int .i64 f.s, .int .i64 f.p, .int .i64 f.r, .int .i64 f.n] 48)).alloc (.cells #[.bool f.used, .int .i64 f.s, .int .i64 f.p, .int .i64 f.r, .int .i64 f.n] 48) = W0 at hb0 ha hc
  have p0 := ha.cell_ 0 (v := .bool f.used) rfl
  have p1 := ha.cell_ 1 (v := .int .i64 f.s) rfl
  have p2 := ha.cell_ 2 (v := .int .i64 f.p) rfl
  have p3 := ha.cell_ 3 (v := .int .i64 f.r) rfl
  have p4 := ha.cell_ 4 (v := .int .i64 f.n) rfl
  have r0 := hc.cell_ 0 (v := .bool f.used) rfl
  have r1 := hc.cell_ 1 (v := .int .i64 f.s) rfl
  have r2 := hc.cell_ 2 (v := .int .i64 f.p) rfl
  have r3 := hc.cell_ 3 (v := .int .i64 f.r) rfl
  have r4 := hc.cell_ 4 (v := .int .i64 f.n) rfl
  have s1 := ha.lt
  have s2 := hc.lt
  have HA := Lib.hid ha
  have HC := Lib.hid hc
  have HB := Lib.hid hb0
  clear ha hc hb0
  go_enter Tryz.func206, Tryz.ntmps206
  go_wp2
  go_ret
  exact ⟨rfl, bT HB.out (bA (bA bR))⟩

set_option maxHeartbeats 1000000 in
theorem eqOwnS_same (A A' : Option Addr) (c c' : Nat) (l : List (Int × Int)) (w : World) (h : Rs owE w.heap.size w A l) (h' : Rs owE w.heap.size w A' l) (hl : l.length ≤ 9223372036854775807) :
    Calls Tryz.prog 157 #[.slice A l.length c, .slice A' l.length c'] w fun r w' => r = .returned (.bool true) ∧ Below w.heap.size w w' := by
  go_enter Tryz.func157, Tryz.ntmps157
  go_wp2
  go_loopw [5] (fun i wr => ∃ k : Nat, k ≤ l.length ∧ i = .int .i64 k ∧ Below w.heap.size w wr) (fun i _ => l.length - (intOf i).toNat)
  case atStart => exact ⟨0, by omega, rfl, bR⟩
  case round =>
    obtain ⟨k, hk, rfl, hb⟩ := hrel
    by_cases hlt : k < l.length
    · obtain ⟨a, ea⟩ : ∃ a, l[k]? = some a := ⟨_, List.getElem?_eq_getElem hlt⟩
      obtain ⟨b, o, rfl, hbb, c0, c1⟩ := (h.now (Nat.le_refl _) hb).ow ea
      obtain ⟨b', o', rfl, hbb', d0, d1⟩ := (h'.now (Nat.le_refl _) hb).ow ea
      clear ea
      go_wp2
      have q0 := xcell (w := wr) c0 (by simp; omega)
      have z0 := xcell (w := wr) d0 (by simp; omega)
      have q1 := xcell (w := wr) c1 (by simp; omega)
      have z1 := xcell (w := wr) d1 (by simp; omega)
      refine wp_region_ext (by kernel_rfl) (by kernel_rfl) ?_
      repeat (go_big_quiet_step ((go_at_call 208; exact ext_call (eqOwn_same _ _))))
      refine wpQuiet_nil ?_
      intro _ hw'
      obtain ⟨⟨wq, hq⟩, hw''⟩ := hw'
      subst hw''
      try dsimp only
      go_wp2
      go_roundw
      case rel => exact ⟨k + 1, by omega, by go_num, bT hb hq⟩
      case measure => simp [intOf]; omega
    · go_wp2
      go_ret
      exact ⟨rfl, hb⟩
set_option maxHeartbeats 1000000 in
theorem eqLineS_same (A A' : Option Addr) (c c' : Nat) (l : List (Ln)) (w : World) (h : Rs lnE w.heap.size w A l) (h' : Rs lnE w.heap.size w A' l) (hl : l.length ≤ 9223372036854775807) :
    Calls Tryz.prog 156 #[.slice A l.length c, .slice A' l.length c'] w fun r w' => r = .returned (.bool true) ∧ Below w.heap.size w w' := by
  go_enter Tryz.func156, Tryz.ntmps156
  go_wp2
  go_loopw [5] (fun i wr => ∃ k : Nat, k ≤ l.length ∧ i = .int .i64 k ∧ Below w.heap.size w wr) (fun i _ => l.length - (intOf i).toNat)
  case atStart => exact ⟨0, by omega, rfl, bR⟩
  case round =>
    obtain ⟨k, hk, rfl, hb⟩ := hrel
    by_cases hlt : k < l.length
    · obtain ⟨a, ea⟩ : ∃ a, l[k]? = some a := ⟨_, List.getElem?_eq_getElem hlt⟩
      obtain ⟨b, o, rfl, hbb, c0, c1, c2, c3, c4, c5⟩ := (h.now (Nat.le_refl _) hb).ln ea
      obtain ⟨b', o', rfl, hbb', d0, d1, d2, d3, d4, d5⟩ := (h'.now (Nat.le_refl _) hb).ln ea
      clear ea
      go_wp2
      have q0 := xcell (w := wr) c0 (by simp; omega)
      have z0 := xcell (w := wr) d0 (by simp; omega)
      have q1 := xcell (w := wr) c1 (by simp; omega)
      have z1 := xcell (w := wr) d1 (by simp; omega)
      have q2 := xcell (w := wr) c2 (by simp; omega)
      have z2 := xcell (w := wr) d2 (by simp; omega)
      have q3 := xcell (w := wr) c3 (by simp; omega)
      have z3 := xcell (w := wr) d3 (by simp; omega)
      have q4 := xcell (w := wr) c4 (by simp; omega)
      have z4 := xcell (w := wr) d4 (by simp; omega)
      have q5 := xcell (w := wr) c5 (by simp; omega)
      have z5 := xcell (w := wr) d5 (by simp; omega)
      refine wp_region_ext (by kernel_rfl) (by kernel_rfl) ?_
      repeat (go_big_quiet_step ((go_at_call 207; exact ext_call (eqLine_same _ _))))
      refine wpQuiet_nil ?_
      intro _ hw'
      obtain ⟨⟨wq, hq⟩, hw''⟩ := hw'
      subst hw''
      try dsimp only
      go_wp2
      go_roundw
      case rel => exact ⟨k + 1, by omega, by go_num, bT hb hq⟩
      case measure => simp [intOf]; omega
    · go_wp2
      go_ret
      exact ⟨rfl, hb⟩
set_option maxHeartbeats 1000000 in
theorem eqFrameS_same (A A' : Option Addr) (c c' : Nat) (l : List (Fr)) (w : World) (h : Rs frE w.heap.size w A l) (h' : Rs frE w.heap.size w A' l) (hl : l.length ≤ 9223372036854775807) :
    Calls Tryz.prog 155 #[.slice A l.length c, .slice A' l.length c'] w fun r w' => r = .returned (.bool true) ∧ Below w.heap.size w w' := by
  go_enter Tryz.func155, Tryz.ntmps155
  go_wp2
  go_loopw [5] (fun i wr => ∃ k : Nat, k ≤ l.length ∧ i = .int .i64 k ∧ Below w.heap.size w wr) (fun i _ => l.length - (intOf i).toNat)
  case atStart => exact ⟨0, by omega, rfl, bR⟩
  case round =>
    obtain ⟨k, hk, rfl, hb⟩ := hrel
    by_cases hlt : k < l.length
    · obtain ⟨a, ea⟩ : ∃ a, l[k]? = some a := ⟨_, List.getElem?_eq_getElem hlt⟩
      obtain ⟨b, o, rfl, hbb, c0, c1, c2, c3, c4⟩ := (h.now (Nat.le_refl _) hb).fr ea
      obtain ⟨b', o', rfl, hbb', d0, d1, d2, d3, d4⟩ := (h'.now (Nat.le_refl _) hb).fr ea
      clear ea
      go_wp2
      have q0 := xcell (w := wr) c0 (by simp; omega)
      have z0 := xcell (w := wr) d0 (by simp; omega)
      have q1 := xcell (w := wr) c1 (by simp; omega)
      have z1 := xcell (w := wr) d1 (by simp; omega)
      have q2 := xcell (w := wr) c2 (by simp; omega)
      have z2 := xcell (w := wr) d2 (by simp; omega)
      have q3 := xcell (w := wr) c3 (by simp; omega)
      have z3 := xcell (w := wr) d3 (by simp; omega)
      have q4 := xcell (w := wr) c4 (by simp; omega)
      have z4 := xcell (w := wr) d4 (by simp; omega)
      refine wp_region_ext (by kernel_rfl) (by kernel_rfl) ?_
      repeat (go_big_quiet_step ((go_at_call 206; exact ext_call (eqFrame_same _ _))))
      refine wpQuiet_nil ?_
      intro _ hw'
      obtain ⟨⟨wq, hq⟩, hw''⟩ := hw'
      subst hw''
      try dsimp only
      go_wp2
      go_roundw
      case rel => exact ⟨k + 1, by omega, by go_num, bT hb hq⟩
      case measure => simp [intOf]; omega
    · go_wp2
      go_ret
      exact ⟨rfl, hb⟩
set_option maxHeartbeats 1000000 in
theorem eqIntS_same (A A' : Option Addr) (c c' : Nat) (l : List (Int)) (w : World) (h : Rs intE w.heap.size w A l) (h' : Rs intE w.heap.size w A' l) (hl : l.length ≤ 9223372036854775807) :
    Calls Tryz.prog 41 #[.slice A l.length c, .slice A' l.length c'] w fun r w' => r = .returned (.bool true) ∧ Below w.heap.size w w' := by
  go_enter Tryz.func41, Tryz.ntmps41
  go_wp2
  go_loopw [5] (fun i wr => ∃ k : Nat, k ≤ l.length ∧ i = .int .i64 k ∧ Below w.heap.size w wr) (fun i _ => l.length - (intOf i).toNat)
  case atStart => exact ⟨0, by omega, rfl, bR⟩
  case round =>
    obtain ⟨k, hk, rfl, hb⟩ := hrel
    by_cases hlt : k < l.length
    · obtain ⟨a, ea⟩ : ∃ a, l[k]? = some a := ⟨_, List.getElem?_eq_getElem hlt⟩
      obtain ⟨b, o, rfl, hbb, c0⟩ := (h.now (Nat.le_refl _) hb).i1 ea
      obtain ⟨b', o', rfl, hbb', d0⟩ := (h'.now (Nat.le_refl _) hb).i1 ea
      clear ea
      go_wp2
      go_quiet (fail)
      go_wp2
      go_roundw
      case rel => exact ⟨k + 1, by omega, by go_num, bDN hb⟩
      case measure => simp [intOf]; omega
    · go_wp2
      go_ret
      exact ⟨rfl, hb⟩
end Go.Proofs.YtnaagdmaggdbmaaGreatDoor
namespace Go.Proofs.YtnaagdmaggdbmaaGreatDoor
open Go.RowKit
set_option maxRecDepth 1000000
theorem max63 {n c : Nat} (h : n ≤ c) (hm : c ≤ maxLen) : n ≤ 9223372036854775807 := by simp only [maxLen] at hm; omega

set_option maxHeartbeats 2000000 in
theorem eqCache_same (v1 v2 : Value) (c : Ca) (w : World) (h1 : SlR lnE w v1 c.ls) (h2 : SlR lnE w v2 c.ls) :
    Calls Tryz.prog 86 #[.agg #[v1, .int .i64 c.hand], .agg #[v2, .int .i64 c.hand]] w fun r w' => r = .returned (.bool true) ∧ Below w.heap.size w w' := by
  obtain ⟨A0, a0, rfl, ha0, hA0', hA0⟩ := h1
  obtain ⟨B0, b0, rfl, hb0', hB0', hB0⟩ := h2
  have hp0 := (Own.new_ w 29 #[.slice A0 c.ls.length a0, .int .i64 c.hand]).alloc (o := .cells #[.slice B0 c.ls.length b0, .int .i64 c.hand] 29)
  have hq0 := ownAt (W := (w.alloc (.cells #[.slice A0 c.ls.length a0, .int .i64 c.hand] 29))) (g := w.heap.size + 1) (t := 29) (cs := #[.slice B0 c.ls.length b0, .int .i64 c.hand]) (by simp)
  have hb0 : Below w.heap.size w ((w.alloc (.cells #[.slice A0 c.ls.length a0, .int .i64 c.hand] 29)).alloc (.cells #[.slice B0 c.ls.length b0, .int .i64 c.hand] 29)) := bA (bA bR)
  generalize hW0 : ((w.alloc (.cells #[.slice A0 c.ls.length a0, .int .i64 c.hand] 29)).alloc (.cells #[.slice B0 c.ls.length b0, .int .i64 c.hand] 29)) = W0 at hp0 hq0 hb0
  have HP0 := Lib.hid hp0
  have HQ0 := Lib.hid hq0
  have HB0 := Lib.hid hb0
  clear hp0 hq0 hb0
  have p0 := HP0.out.cell_ 0 (v := .slice A0 c.ls.length a0) rfl
  have q0 := HQ0.out.cell_ 0 (v := .slice B0 c.ls.length b0) rfl
  have p1 := HP0.out.cell_ 1 (v := .int .i64 c.hand) rfl
  have q1 := HQ0.out.cell_ 1 (v := .int .i64 c.hand) rfl
  go_enter Tryz.func86, Tryz.ntmps86
  go_wp2_with fail
  refine (eqLineS_same A0 B0 _ _ c.ls _ (hA0.now (Nat.le_refl _) HB0.out) (hB0.now (Nat.le_refl _) HB0.out) (max63 ha0 hA0')).mono ?_
  rintro e W1 ⟨rfl, hb_⟩
  clear p0 q0 p1 q1
  have hp1 := HP0.out.below hb_
  have hq1 := HQ0.out.below hb_
  have hb1 := bT HB0.out hb_
  clear hb_
  have HP1 := Lib.hid hp1
  have HQ1 := Lib.hid hq1
  have HB1 := Lib.hid hb1
  clear hp1 hq1 hb1
  have p0 := HP1.out.cell_ 0 (v := .slice A0 c.ls.length a0) rfl
  have q0 := HQ1.out.cell_ 0 (v := .slice B0 c.ls.length b0) rfl
  have p1 := HP1.out.cell_ 1 (v := .int .i64 c.hand) rfl
  have q1 := HQ1.out.cell_ 1 (v := .int .i64 c.hand) rfl
  go_wp2
  go_ret
  exact ⟨rfl, HB1.out⟩

set_option maxHeartbeats 2000000 in
theorem eqTags_same (v1 v2 : Value) (g : Tg) (w : World) (h1 : SlR owE w v1 g.os) (h2 : SlR owE w v2 g.os) :
    Calls Tryz.prog 87 #[.agg #[.int .i64 g.count, .int .i64 g.next, .int .i64 g.round, v1], .agg #[.int .i64 g.count, .int .i64 g.next, .int .i64 g.round, v2]] w fun r w' => r = .returned (.bool true) ∧ Below w.heap.size w w' := by
  obtain ⟨A0, a0, rfl, ha0, hA0', hA0⟩ := h1
  obtain ⟨B0, b0, rfl, hb0', hB0', hB0⟩ := h2
  have hp0 := (Own.new_ w 32 #[.int .i64 g.count, .int .i64 g.next, .int .i64 g.round, .slice A0 g.os.length a0]).alloc (o := .cells #[.int .i64 g.count, .int .i64 g.next, .int .i64 g.round, .slice B0 g.os.length b0] 32)
  have hq0 := ownAt (W := (w.alloc (.cells #[.int .i64 g.count, .int .i64 g.next, .int .i64 g.round, .slice A0 g.os.length a0] 32))) (g := w.heap.size + 1) (t := 32) (cs := #[.int .i64 g.count, .int .i64 g.next, .int .i64 g.round, .slice B0 g.os.length b0]) (by simp)
  have hb0 : Below w.heap.size w ((w.alloc (.cells #[.int .i64 g.count, .int .i64 g.next, .int .i64 g.round, .slice A0 g.os.length a0] 32)).alloc (.cells #[.int .i64 g.count, .int .i64 g.next, .int .i64 g.round, .slice B0 g.os.length b0] 32)) := bA (bA bR)
  generalize hW0 : ((w.alloc (.cells #[.int .i64 g.count, .int .i64 g.next, .int .i64 g.round, .slice A0 g.os.length a0] 32)).alloc (.cells #[.int .i64 g.count, .int .i64 g.next, .int .i64 g.round, .slice B0 g.os.length b0] 32)) = W0 at hp0 hq0 hb0
  have HP0 := Lib.hid hp0
  have HQ0 := Lib.hid hq0
  have HB0 := Lib.hid hb0
  clear hp0 hq0 hb0
  have p0 := HP0.out.cell_ 0 (v := .int .i64 g.count) rfl
  have q0 := HQ0.out.cell_ 0 (v := .int .i64 g.count) rfl
  have p1 := HP0.out.cell_ 1 (v := .int .i64 g.next) rfl
  have q1 := HQ0.out.cell_ 1 (v := .int .i64 g.next) rfl
  have p2 := HP0.out.cell_ 2 (v := .int .i64 g.round) rfl
  have q2 := HQ0.out.cell_ 2 (v := .int .i64 g.round) rfl
  have p3 := HP0.out.cell_ 3 (v := .slice A0 g.os.length a0) rfl
  have q3 := HQ0.out.cell_ 3 (v := .slice B0 g.os.length b0) rfl
  go_enter Tryz.func87, Tryz.ntmps87
  go_wp2_with fail
  refine (eqOwnS_same A0 B0 _ _ g.os _ (hA0.now (Nat.le_refl _) HB0.out) (hB0.now (Nat.le_refl _) HB0.out) (max63 ha0 hA0')).mono ?_
  rintro e W1 ⟨rfl, hb_⟩
  clear p0 q0 p1 q1 p2 q2 p3 q3
  have hp1 := HP0.out.below hb_
  have hq1 := HQ0.out.below hb_
  have hb1 := bT HB0.out hb_
  clear hb_
  have HP1 := Lib.hid hp1
  have HQ1 := Lib.hid hq1
  have HB1 := Lib.hid hb1
  clear hp1 hq1 hb1
  have p0 := HP1.out.cell_ 0 (v := .int .i64 g.count) rfl
  have q0 := HQ1.out.cell_ 0 (v := .int .i64 g.count) rfl
  have p1 := HP1.out.cell_ 1 (v := .int .i64 g.next) rfl
  have q1 := HQ1.out.cell_ 1 (v := .int .i64 g.next) rfl
  have p2 := HP1.out.cell_ 2 (v := .int .i64 g.round) rfl
  have q2 := HQ1.out.cell_ 2 (v := .int .i64 g.round) rfl
  have p3 := HP1.out.cell_ 3 (v := .slice A0 g.os.length a0) rfl
  have q3 := HQ1.out.cell_ 3 (v := .slice B0 g.os.length b0) rfl
  go_wp2
  go_ret
  exact ⟨rfl, HB1.out⟩

set_option maxHeartbeats 2000000 in
theorem eqTable_same (v1 v2 v3 v4 : Value) (t : Tab) (w : World) (h1 : TaR w v1 v2 t) (h2 : TaR w v3 v4 t) :
    Calls Tryz.prog 85 #[.agg #[v1, v2], .agg #[v3, v4]] w fun r w' => r = .returned (.bool true) ∧ Below w.heap.size w w' := by
  obtain ⟨A0, a0, rfl, ha0, hA0', hA0⟩ := h1.b
  obtain ⟨B0, b0, rfl, hb0', hB0', hB0⟩ := h2.b
  obtain ⟨A1, a1, rfl, ha1, hA1', hA1⟩ := h1.f
  obtain ⟨B1, b1, rfl, hb1', hB1', hB1⟩ := h2.f
  have hp0 := (Own.new_ w 26 #[.slice A0 t.bs.length a0, .slice A1 t.fs.length a1]).alloc (o := .cells #[.slice B0 t.bs.length b0, .slice B1 t.fs.length b1] 26)
  have hq0 := ownAt (W := (w.alloc (.cells #[.slice A0 t.bs.length a0, .slice A1 t.fs.length a1] 26))) (g := w.heap.size + 1) (t := 26) (cs := #[.slice B0 t.bs.length b0, .slice B1 t.fs.length b1]) (by simp)
  have hb0 : Below w.heap.size w ((w.alloc (.cells #[.slice A0 t.bs.length a0, .slice A1 t.fs.length a1] 26)).alloc (.cells #[.slice B0 t.bs.length b0, .slice B1 t.fs.length b1] 26)) := bA (bA bR)
  generalize hW0 : ((w.alloc (.cells #[.slice A0 t.bs.length a0, .slice A1 t.fs.length a1] 26)).alloc (.cells #[.slice B0 t.bs.length b0, .slice B1 t.fs.length b1] 26)) = W0 at hp0 hq0 hb0
  have HP0 := Lib.hid hp0
  have HQ0 := Lib.hid hq0
  have HB0 := Lib.hid hb0
  clear hp0 hq0 hb0
  have p0 := HP0.out.cell_ 0 (v := .slice A0 t.bs.length a0) rfl
  have q0 := HQ0.out.cell_ 0 (v := .slice B0 t.bs.length b0) rfl
  have p1 := HP0.out.cell_ 1 (v := .slice A1 t.fs.length a1) rfl
  have q1 := HQ0.out.cell_ 1 (v := .slice B1 t.fs.length b1) rfl
  go_enter Tryz.func85, Tryz.ntmps85
  go_wp2_with fail
  refine (eqIntS_same A0 B0 _ _ t.bs _ (hA0.now (Nat.le_refl _) HB0.out) (hB0.now (Nat.le_refl _) HB0.out) (max63 ha0 hA0')).mono ?_
  rintro e W1 ⟨rfl, hb_⟩
  clear p0 q0 p1 q1
  have hp1 := HP0.out.below hb_
  have hq1 := HQ0.out.below hb_
  have hb1 := bT HB0.out hb_
  clear hb_
  have HP1 := Lib.hid hp1
  have HQ1 := Lib.hid hq1
  have HB1 := Lib.hid hb1
  clear hp1 hq1 hb1
  have p0 := HP1.out.cell_ 0 (v := .slice A0 t.bs.length a0) rfl
  have q0 := HQ1.out.cell_ 0 (v := .slice B0 t.bs.length b0) rfl
  have p1 := HP1.out.cell_ 1 (v := .slice A1 t.fs.length a1) rfl
  have q1 := HQ1.out.cell_ 1 (v := .slice B1 t.fs.length b1) rfl
  go_wp2_with fail
  refine (eqFrameS_same A1 B1 _ _ t.fs _ (hA1.now (Nat.le_refl _) HB1.out) (hB1.now (Nat.le_refl _) HB1.out) (max63 ha1 hA1')).mono ?_
  rintro e W2 ⟨rfl, hb_⟩
  clear p0 q0 p1 q1
  have hp2 := HP1.out.below hb_
  have hq2 := HQ1.out.below hb_
  have hb2 := bT HB1.out hb_
  clear hb_
  have HP2 := Lib.hid hp2
  have HQ2 := Lib.hid hq2
  have HB2 := Lib.hid hb2
  clear hp2 hq2 hb2
  have p0 := HP2.out.cell_ 0 (v := .slice A0 t.bs.length a0) rfl
  have q0 := HQ2.out.cell_ 0 (v := .slice B0 t.bs.length b0) rfl
  have p1 := HP2.out.cell_ 1 (v := .slice A1 t.fs.length a1) rfl
  have q1 := HQ2.out.cell_ 1 (v := .slice B1 t.fs.length b1) rfl
  go_wp2
  go_ret
  exact ⟨rfl, HB2.out⟩

set_option maxHeartbeats 2000000 in
theorem eqMachine_same (v1 v2 v3 v4 u1 u2 u3 u4 : Value) (m : Ma) (w : World) (h1 : MaR w v1 v2 v3 v4 m) (h2 : MaR w u1 u2 u3 u4 m) :
    Calls Tryz.prog 32 #[.agg #[v1, v2, v3, .int .i64 m.c.hand, .int .i64 m.g.count, .int .i64 m.g.next, .int .i64 m.g.round, v4, .int .i64 m.sp], .agg #[u1, u2, u3, .int .i64 m.c.hand, .int .i64 m.g.count, .int .i64 m.g.next, .int .i64 m.g.round, u4, .int .i64 m.sp]] w fun r w' => r = .returned (.bool true) ∧ Below w.heap.size w w' := by
  obtain ⟨A0, a0, rfl, ha0, hA0', hA0⟩ := h1.t.b
  obtain ⟨B0, b0, rfl, hb0', hB0', hB0⟩ := h2.t.b
  obtain ⟨A1, a1, rfl, ha1, hA1', hA1⟩ := h1.t.f
  obtain ⟨B1, b1, rfl, hb1', hB1', hB1⟩ := h2.t.f
  obtain ⟨A2, a2, rfl, ha2, hA2', hA2⟩ := h1.l
  obtain ⟨B2, b2, rfl, hb2', hB2', hB2⟩ := h2.l
  obtain ⟨A3, a3, rfl, ha3, hA3', hA3⟩ := h1.o
  obtain ⟨B3, b3, rfl, hb3', hB3', hB3⟩ := h2.o
  have hp0 := (Own.new_ w 34 #[.slice A0 m.t.bs.length a0, .slice A1 m.t.fs.length a1, .slice A2 m.c.ls.length a2, .int .i64 m.c.hand, .int .i64 m.g.count, .int .i64 m.g.next, .int .i64 m.g.round, .slice A3 m.g.os.length a3, .int .i64 m.sp]).alloc (o := .cells #[.slice B0 m.t.bs.length b0, .slice B1 m.t.fs.length b1, .slice B2 m.c.ls.length b2, .int .i64 m.c.hand, .int .i64 m.g.count, .int .i64 m.g.next, .int .i64 m.g.round, .slice B3 m.g.os.length b3, .int .i64 m.sp] 34)
  have hq0 := ownAt (W := (w.alloc (.cells #[.slice A0 m.t.bs.length a0, .slice A1 m.t.fs.length a1, .slice A2 m.c.ls.length a2, .int .i64 m.c.hand, .int .i64 m.g.count, .int .i64 m.g.next, .int .i64 m.g.round, .slice A3 m.g.os.length a3, .int .i64 m.sp] 34))) (g := w.heap.size + 1) (t := 34) (cs := #[.slice B0 m.t.bs.length b0, .slice B1 m.t.fs.length b1, .slice B2 m.c.ls.length b2, .int .i64 m.c.hand, .int .i64 m.g.count, .int .i64 m.g.next, .int .i64 m.g.round, .slice B3 m.g.os.length b3, .int .i64 m.sp]) (by simp)
  have hb0 : Below w.heap.size w ((w.alloc (.cells #[.slice A0 m.t.bs.length a0, .slice A1 m.t.fs.length a1, .slice A2 m.c.ls.length a2, .int .i64 m.c.hand, .int .i64 m.g.count, .int .i64 m.g.next, .int .i64 m.g.round, .slice A3 m.g.os.length a3, .int .i64 m.sp] 34)).alloc (.cells #[.slice B0 m.t.bs.length b0, .slice B1 m.t.fs.length b1, .slice B2 m.c.ls.length b2, .int .i64 m.c.hand, .int .i64 m.g.count, .int .i64 m.g.next, .int .i64 m.g.round, .slice B3 m.g.os.length b3, .int .i64 m.sp] 34)) := bA (bA bR)
  generalize hW0 : ((w.alloc (.cells #[.slice A0 m.t.bs.length a0, .slice A1 m.t.fs.length a1, .slice A2 m.c.ls.length a2, .int .i64 m.c.hand, .int .i64 m.g.count, .int .i64 m.g.next, .int .i64 m.g.round, .slice A3 m.g.os.length a3, .int .i64 m.sp] 34)).alloc (.cells #[.slice B0 m.t.bs.length b0, .slice B1 m.t.fs.length b1, .slice B2 m.c.ls.length b2, .int .i64 m.c.hand, .int .i64 m.g.count, .int .i64 m.g.next, .int .i64 m.g.round, .slice B3 m.g.os.length b3, .int .i64 m.sp] 34)) = W0 at hp0 hq0 hb0
  have HP0 := Lib.hid hp0
  have HQ0 := Lib.hid hq0
  have HB0 := Lib.hid hb0
  clear hp0 hq0 hb0
  have p0 := HP0.out.cell_ 0 (v := .slice A0 m.t.bs.length a0) rfl
  have q0 := HQ0.out.cell_ 0 (v := .slice B0 m.t.bs.length b0) rfl
  have p1 := HP0.out.cell_ 1 (v := .slice A1 m.t.fs.length a1) rfl
  have q1 := HQ0.out.cell_ 1 (v := .slice B1 m.t.fs.length b1) rfl
  have p2 := HP0.out.cell_ 2 (v := .slice A2 m.c.ls.length a2) rfl
  have q2 := HQ0.out.cell_ 2 (v := .slice B2 m.c.ls.length b2) rfl
  have p3 := HP0.out.cell_ 3 (v := .int .i64 m.c.hand) rfl
  have q3 := HQ0.out.cell_ 3 (v := .int .i64 m.c.hand) rfl
  have p4 := HP0.out.cell_ 4 (v := .int .i64 m.g.count) rfl
  have q4 := HQ0.out.cell_ 4 (v := .int .i64 m.g.count) rfl
  have p5 := HP0.out.cell_ 5 (v := .int .i64 m.g.next) rfl
  have q5 := HQ0.out.cell_ 5 (v := .int .i64 m.g.next) rfl
  have p6 := HP0.out.cell_ 6 (v := .int .i64 m.g.round) rfl
  have q6 := HQ0.out.cell_ 6 (v := .int .i64 m.g.round) rfl
  have p7 := HP0.out.cell_ 7 (v := .slice A3 m.g.os.length a3) rfl
  have q7 := HQ0.out.cell_ 7 (v := .slice B3 m.g.os.length b3) rfl
  have p8 := HP0.out.cell_ 8 (v := .int .i64 m.sp) rfl
  have q8 := HQ0.out.cell_ 8 (v := .int .i64 m.sp) rfl
  go_enter Tryz.func32, Tryz.ntmps32
  go_wp2_with fail
  refine (eqTable_same _ _ _ _ m.t _ ⟨⟨A0, a0, rfl, ha0, hA0', hA0.now (Nat.le_refl _) HB0.out⟩, ⟨A1, a1, rfl, ha1, hA1', hA1.now (Nat.le_refl _) HB0.out⟩⟩ ⟨⟨B0, b0, rfl, hb0', hB0', hB0.now (Nat.le_refl _) HB0.out⟩, ⟨B1, b1, rfl, hb1', hB1', hB1.now (Nat.le_refl _) HB0.out⟩⟩).mono ?_
  rintro e W1 ⟨rfl, hb_⟩
  clear p0 q0 p1 q1 p2 q2 p3 q3 p4 q4 p5 q5 p6 q6 p7 q7 p8 q8
  have hp1 := HP0.out.below hb_
  have hq1 := HQ0.out.below hb_
  have hb1 := bT HB0.out hb_
  clear hb_
  have HP1 := Lib.hid hp1
  have HQ1 := Lib.hid hq1
  have HB1 := Lib.hid hb1
  clear hp1 hq1 hb1
  have p0 := HP1.out.cell_ 0 (v := .slice A0 m.t.bs.length a0) rfl
  have q0 := HQ1.out.cell_ 0 (v := .slice B0 m.t.bs.length b0) rfl
  have p1 := HP1.out.cell_ 1 (v := .slice A1 m.t.fs.length a1) rfl
  have q1 := HQ1.out.cell_ 1 (v := .slice B1 m.t.fs.length b1) rfl
  have p2 := HP1.out.cell_ 2 (v := .slice A2 m.c.ls.length a2) rfl
  have q2 := HQ1.out.cell_ 2 (v := .slice B2 m.c.ls.length b2) rfl
  have p3 := HP1.out.cell_ 3 (v := .int .i64 m.c.hand) rfl
  have q3 := HQ1.out.cell_ 3 (v := .int .i64 m.c.hand) rfl
  have p4 := HP1.out.cell_ 4 (v := .int .i64 m.g.count) rfl
  have q4 := HQ1.out.cell_ 4 (v := .int .i64 m.g.count) rfl
  have p5 := HP1.out.cell_ 5 (v := .int .i64 m.g.next) rfl
  have q5 := HQ1.out.cell_ 5 (v := .int .i64 m.g.next) rfl
  have p6 := HP1.out.cell_ 6 (v := .int .i64 m.g.round) rfl
  have q6 := HQ1.out.cell_ 6 (v := .int .i64 m.g.round) rfl
  have p7 := HP1.out.cell_ 7 (v := .slice A3 m.g.os.length a3) rfl
  have q7 := HQ1.out.cell_ 7 (v := .slice B3 m.g.os.length b3) rfl
  have p8 := HP1.out.cell_ 8 (v := .int .i64 m.sp) rfl
  have q8 := HQ1.out.cell_ 8 (v := .int .i64 m.sp) rfl
  go_wp2_with fail
  refine (eqCache_same _ _ m.c _ ⟨A2, a2, rfl, ha2, hA2', hA2.now (Nat.le_refl _) HB1.out⟩ ⟨B2, b2, rfl, hb2', hB2', hB2.now (Nat.le_refl _) HB1.out⟩).mono ?_
  rintro e W2 ⟨rfl, hb_⟩
  clear p0 q0 p1 q1 p2 q2 p3 q3 p4 q4 p5 q5 p6 q6 p7 q7 p8 q8
  have hp2 := HP1.out.below hb_
  have hq2 := HQ1.out.below hb_
  have hb2 := bT HB1.out hb_
  clear hb_
  have HP2 := Lib.hid hp2
  have HQ2 := Lib.hid hq2
  have HB2 := Lib.hid hb2
  clear hp2 hq2 hb2
  have p0 := HP2.out.cell_ 0 (v := .slice A0 m.t.bs.length a0) rfl
  have q0 := HQ2.out.cell_ 0 (v := .slice B0 m.t.bs.length b0) rfl
  have p1 := HP2.out.cell_ 1 (v := .slice A1 m.t.fs.length a1) rfl
  have q1 := HQ2.out.cell_ 1 (v := .slice B1 m.t.fs.length b1) rfl
  have p2 := HP2.out.cell_ 2 (v := .slice A2 m.c.ls.length a2) rfl
  have q2 := HQ2.out.cell_ 2 (v := .slice B2 m.c.ls.length b2) rfl
  have p3 := HP2.out.cell_ 3 (v := .int .i64 m.c.hand) rfl
  have q3 := HQ2.out.cell_ 3 (v := .int .i64 m.c.hand) rfl
  have p4 := HP2.out.cell_ 4 (v := .int .i64 m.g.count) rfl
  have q4 := HQ2.out.cell_ 4 (v := .int .i64 m.g.count) rfl
  have p5 := HP2.out.cell_ 5 (v := .int .i64 m.g.next) rfl
  have q5 := HQ2.out.cell_ 5 (v := .int .i64 m.g.next) rfl
  have p6 := HP2.out.cell_ 6 (v := .int .i64 m.g.round) rfl
  have q6 := HQ2.out.cell_ 6 (v := .int .i64 m.g.round) rfl
  have p7 := HP2.out.cell_ 7 (v := .slice A3 m.g.os.length a3) rfl
  have q7 := HQ2.out.cell_ 7 (v := .slice B3 m.g.os.length b3) rfl
  have p8 := HP2.out.cell_ 8 (v := .int .i64 m.sp) rfl
  have q8 := HQ2.out.cell_ 8 (v := .int .i64 m.sp) rfl
  go_wp2_with fail
  refine (eqTags_same _ _ m.g _ ⟨A3, a3, rfl, ha3, hA3', hA3.now (Nat.le_refl _) HB2.out⟩ ⟨B3, b3, rfl, hb3', hB3', hB3.now (Nat.le_refl _) HB2.out⟩).mono ?_
  rintro e W3 ⟨rfl, hb_⟩
  clear p0 q0 p1 q1 p2 q2 p3 q3 p4 q4 p5 q5 p6 q6 p7 q7 p8 q8
  have hp3 := HP2.out.below hb_
  have hq3 := HQ2.out.below hb_
  have hb3 := bT HB2.out hb_
  clear hb_
  have HP3 := Lib.hid hp3
  have HQ3 := Lib.hid hq3
  have HB3 := Lib.hid hb3
  clear hp3 hq3 hb3
  have p0 := HP3.out.cell_ 0 (v := .slice A0 m.t.bs.length a0) rfl
  have q0 := HQ3.out.cell_ 0 (v := .slice B0 m.t.bs.length b0) rfl
  have p1 := HP3.out.cell_ 1 (v := .slice A1 m.t.fs.length a1) rfl
  have q1 := HQ3.out.cell_ 1 (v := .slice B1 m.t.fs.length b1) rfl
  have p2 := HP3.out.cell_ 2 (v := .slice A2 m.c.ls.length a2) rfl
  have q2 := HQ3.out.cell_ 2 (v := .slice B2 m.c.ls.length b2) rfl
  have p3 := HP3.out.cell_ 3 (v := .int .i64 m.c.hand) rfl
  have q3 := HQ3.out.cell_ 3 (v := .int .i64 m.c.hand) rfl
  have p4 := HP3.out.cell_ 4 (v := .int .i64 m.g.count) rfl
  have q4 := HQ3.out.cell_ 4 (v := .int .i64 m.g.count) rfl
  have p5 := HP3.out.cell_ 5 (v := .int .i64 m.g.next) rfl
  have q5 := HQ3.out.cell_ 5 (v := .int .i64 m.g.next) rfl
  have p6 := HP3.out.cell_ 6 (v := .int .i64 m.g.round) rfl
  have q6 := HQ3.out.cell_ 6 (v := .int .i64 m.g.round) rfl
  have p7 := HP3.out.cell_ 7 (v := .slice A3 m.g.os.length a3) rfl
  have q7 := HQ3.out.cell_ 7 (v := .slice B3 m.g.os.length b3) rfl
  have p8 := HP3.out.cell_ 8 (v := .int .i64 m.sp) rfl
  have q8 := HQ3.out.cell_ 8 (v := .int .i64 m.sp) rfl
  go_wp2
  go_ret
  exact ⟨rfl, HB3.out⟩

end Go.Proofs.YtnaagdmaggdbmaaGreatDoor
namespace Go.Proofs.YtnaagdmaggdbmaaGreatDoor
open Go.RowKit
set_option maxRecDepth 1000000
/-! ### what is touched -/
/-- old blocks are turned only from lo up to hi -/
structure Tch (lo hi : Nat) (w w' : World) : Prop where
  os : w'.os = w.os
  tape : w'.tape = w.tape
  output : w'.output = w.output
  size : w.heap.size ≤ w'.heap.size
  block : ∀ k : Nat, k < w.heap.size → ¬ (lo ≤ k ∧ k < hi) → w'.heap[k]? = w.heap[k]?
section
variable {lo hi : Nat} {w w' w'' a : World}
theorem Tch.rfl_ : Tch lo hi w w := ⟨rfl, rfl, rfl, Nat.le_refl _, fun _ _ _ => rfl⟩
theorem Tch.trans (h : Tch lo hi w w') (k : Tch lo hi w' w'') : Tch lo hi w w'' :=
  ⟨k.os.trans h.os, k.tape.trans h.tape, k.output.trans h.output, Nat.le_trans h.size k.size, fun j hj hn => (k.block j (Nat.lt_of_lt_of_le hj h.size) hn).trans (h.block j hj hn)⟩
theorem Tch.grown {r : Option Nat} (h : w.grownBy w' r) (hr : ∀ k, r = some k → lo ≤ k ∧ k < hi) : Tch lo hi w w' :=
  ⟨h.os, h.tape, h.output, h.size, fun j hj hn => h.block j hj (fun e => hn (hr j e.symm))⟩
theorem Tch.of_below (h : Below w.heap.size w w') : Tch lo hi w w' := ⟨h.os, h.tape, h.output, h.size, fun j hj _ => h.block j hj⟩
theorem Tch.below (h : Tch lo hi w w') (hb : Below a.heap.size a w) (hl : a.heap.size ≤ lo) : Below a.heap.size a w' :=
  ⟨h.os.trans hb.os, h.tape.trans hb.tape, h.output.trans hb.output, Nat.le_trans hb.size h.size, fun j hj => (h.block j (Nat.lt_of_lt_of_le hj hb.size) (by omega)).trans (hb.block j hj)⟩
theorem Own.tch {g : Nat} {t : TypeId} {cs : Array Value} (h : Own w g t cs) (ht : Tch lo hi w w') (hg : ¬ (lo ≤ g ∧ g < hi)) : Own w' g t cs := (ht.block g h.lt hg).trans h
theorem MineE.tch {α : Type} {E : Enc α} {e : TypeId} {B : Nat} {A : Option Addr} {l : List α} (h : MineE E e B w A l) (ht : Tch lo hi w w') (hB : hi ≤ B) : MineE E e B w' A l := by
  refine ⟨⟨h.is.len, fun hn => ?_⟩, fun hl => ?_⟩
  · obtain ⟨g, cs, rfl, hbg, ho, _⟩ := h.own hn
    obtain ⟨b, o, e, hb, hc⟩ := h.is.at_ hn
    injection e with e
    injection e with e1 e2
    subst e1 e2
    have := ht.size
    exact ⟨g, 0, rfl, by omega, fun j u hu => (World.cell?_of_block (a := ⟨g, 0 + j, none⟩) (ht.block g hb (by omega))).trans (hc j u hu)⟩
  · obtain ⟨g, cs, e, hbg, ho, hs⟩ := h.own hl
    exact ⟨g, cs, e, hbg, ho.tch ht (by omega), hs⟩
theorem SlM.tch {α : Type} {E : Enc α} {e : TypeId} {B : Nat} {v : Value} {l : List α} (h : SlM E e B w v l) (ht : Tch lo hi w w') (hB : hi ≤ B) : SlM E e B w' v l :=
  let ⟨A, c, h1, h2, h3, h4⟩ := h; ⟨A, c, h1, h2, h3, h4.tch ht hB⟩
theorem MaM.tch {B : Nat} {vb vf vl vo : Value} {m : Ma} (h : MaM B w vb vf vl vo m) (ht : Tch lo hi w w') (hB : hi ≤ B) : MaM B w' vb vf vl vo m := ⟨⟨h.t.b.tch ht hB, h.t.f.tch ht hB⟩, h.l.tch ht hB, h.o.tch ht hB⟩
end
/-- which block may be written -/
def rowOf (n : Nat) (A : Option Addr) : Option Nat := if n = 0 then none else A.map (·.block)
theorem rowOf_some {n g : Nat} {o : Nat} (h : n ≠ 0) : rowOf n (some ⟨g, o, none⟩) = some g := by unfold rowOf; rw [if_neg h]; rfl
section
variable {w0 w w' : World} {g : Nat} {t : TypeId} {cs : Array Value}
theorem gRx (w : World) (r : Option Nat) : w.grownBy w r := World.grownBy.refl w r
theorem gSx (h : w0.grownBy w (some g)) (i : Nat) (u : Value) : w0.grownBy (w.setCell ⟨g, i, none⟩ u) (some g) :=
  ⟨h.os, h.tape, h.output, by simpa using h.size, fun k hk hne => (Below.heap_setCell w _ u k (by rintro rfl; exact hne rfl)).trans (h.block k hk hne)⟩
theorem gDx {r : Option Nat} (h : w0.grownBy w r) {n : Nat} : w0.grownBy (w.drewN n) r := ⟨h.os, h.tape, h.output, h.size, h.block⟩
end
theorem MineE.row {α : Type} {E : Enc α} {e : TypeId} {B : Nat} {w : World} {A : Option Addr} {l : List α} (h : MineE E e B w A l) : ∀ k, rowOf l.length A = some k → B ≤ k ∧ k < w.heap.size := by
  intro k hk
  unfold rowOf at hk
  split at hk
  · cases hk
  · obtain ⟨g, cs, rfl, hb, ho, _⟩ := h.own (by omega)
    have := ho.lt
    simp at hk
    omega
/-! ### marks -/
def mkE (b : Nat → Bool) (sz : Nat) (k0 : Int) (i : Nat) : Value := if b (i % sz) = true then .bool ((k0 + (i : Int)) % 3 == 0) else .int .i64 (k0 + (i : Int))
structure Mk (f : Nat → Value) (sz : Nat) (e : TypeId) (w : World) (A : Option Addr) (n : Nat) : Prop where
  own : 0 < n → ∃ g cs, A = some ⟨g, 0, none⟩ ∧ Own w g e cs ∧ n * sz ≤ cs.size ∧ ∀ i, i < n * sz → cs[i]? = some (f i)
theorem Mk.now {f : Nat → Value} {sz : Nat} {e : TypeId} {w w' : World} {A : Option Addr} {n : Nat} (h : Mk f sz e w A n) (hb : Below w.heap.size w w') : Mk f sz e w' A n :=
  ⟨fun hn => let ⟨g, cs, e, ho, hs, hc⟩ := h.own hn; ⟨g, cs, e, ho.below hb, hs, hc⟩⟩
/-- a block of another type is marked -/
theorem Mk.other {f : Nat → Value} {sz : Nat} {e e' : TypeId} {w w' : World} {A A' : Option Addr} {n n' : Nat} (h : Mk f sz e w A n) (hg : w.grownBy w' (rowOf n' A')) (ho : 0 < n' → ∃ g cs, A' = some ⟨g, 0, none⟩ ∧ Own w g e' cs) (hne : e ≠ e') : Mk f sz e w' A n := by
  refine ⟨fun hn => ?_⟩
  obtain ⟨g, cs, e1, o1, hs, hc⟩ := h.own hn
  refine ⟨g, cs, e1, (hg.block g o1.lt (fun hk => ?_)).trans o1, hs, hc⟩
  by_cases h0 : n' = 0
  · rw [h0] at hk; cases hk
  · obtain ⟨g', cs', rfl, o2⟩ := ho (by omega)
    rw [rowOf_some h0] at hk
    injection hk with hk
    subst hk
    have h3 := o1.symm.trans o2
    injection h3 with h3
    injection h3 with _ h3
    exact hne h3
theorem mine_other {α : Type} {E : Enc α} {e e' : TypeId} {B : Nat} {w w' : World} {A A' : Option Addr} {l : List α} {n' : Nat} (h : MineE E e B w A l) (hg : w.grownBy w' (rowOf n' A')) (ho : 0 < n' → ∃ g cs, A' = some ⟨g, 0, none⟩ ∧ Own w g e' cs) (hne : e ≠ e') : MineE E e B w' A l := by
  have hk : ∀ g cs, Own w g e cs → w'.heap[g]? = w.heap[g]? := by
    intro g cs o1
    refine hg.block g o1.lt (fun hk => ?_)
    by_cases h0 : n' = 0
    · rw [h0] at hk; cases hk
    · obtain ⟨g', cs', rfl, o2⟩ := ho (by omega)
      rw [rowOf_some h0] at hk
      injection hk with hk
      subst hk
      have h3 := o1.symm.trans o2
      injection h3 with h3
      injection h3 with _ h3
      exact hne h3
  refine ⟨⟨h.is.len, fun hn => ?_⟩, fun hl => ?_⟩
  · obtain ⟨g, cs, rfl, hbg, ho, _⟩ := h.own hn
    obtain ⟨b, o, e, hb, hc⟩ := h.is.at_ hn
    injection e with e
    injection e with e1 e2
    subst e1 e2
    have := hg.size
    exact ⟨g, 0, rfl, by omega, fun j u hu => (World.cell?_of_block (a := ⟨g, 0 + j, none⟩) (hk g cs ho)).trans (hc j u hu)⟩
  · obtain ⟨g, cs, e, hbg, ho, hs⟩ := h.own hl
    exact ⟨g, cs, e, hbg, (hk g cs ho).trans ho, hs⟩
theorem mark_at {cs cs' : Array Value} {k sz : Nat} {f : Nat → Value} (hin : ∀ d, d < sz → cs'[k * sz + d]? = some (f (k * sz + d))) (hout : ∀ i, i < k * sz → cs'[i]? = cs[i]?) (h : ∀ i, i < k * sz → cs[i]? = some (f i)) :
    ∀ i, i < (k + 1) * sz → cs'[i]? = some (f i) := by
  intro i hi
  rcases Nat.lt_or_ge i (k * sz) with h1 | h1
  · rw [hout i h1, h i h1]
  · obtain ⟨d, rfl⟩ : ∃ d, i = k * sz + d := ⟨i - k * sz, by omega⟩
    exact hin d (by rw [Nat.add_mul] at hi; omega)

def bInt : Nat → Bool := (fun d => false)
theorem mkInt0 (k0 : Int) (k : Nat) : mkE bInt 1 k0 (k) = .int .i64 (k0 + (k : Int)) := by
  unfold mkE
  rw [show (k) % 1 = 0 by omega]
  rw [if_neg (by decide), show k0 + ((k : Nat) : Int) = k0 + (k : Int) by omega]
set_option maxHeartbeats 2000000 in
theorem markIntS_any (B : Nat) (A : Option Addr) (c n : Nat) (l : List (Int)) (w : World) (k0 : Int) (h : MineE intE 3 B w A l) (hn : n = l.length) (hk0 : 0 ≤ k0) (hk1 : k0 ≤ 1073741824) (hl : n ≤ 1048576) :
    Calls Tryz.prog 42 #[.slice A n c, .int .i64 k0] w fun r w' => r = .returned (.int .i64 (k0 + (n : Int))) ∧ Mk (mkE bInt 1 k0) 1 3 w' A n ∧ w.grownBy w' (rowOf n A) ∧ (0 < n → ∃ g cs, A = some ⟨g, 0, none⟩ ∧ Own w g 3 cs) := by
  by_cases h0 : n = 0
  · subst h0
    go_enter Tryz.func42, Tryz.ntmps42
    go_wp2
    go_loopw [1, 5] (fun m u wr => m = .int .i64 k0 ∧ u = .int .i64 0 ∧ w = wr) (fun _ _ _ => 0)
    case atStart => exact ⟨rfl, rfl, rfl⟩
    case round =>
      obtain ⟨rfl, rfl, rfl⟩ := hrel
      go_wp2
      go_ret
      exact ⟨by simp, ⟨fun h => absurd h (by omega)⟩, gRx _ _, fun h => absurd h (by omega)⟩
  · obtain ⟨g, cs0, rfl, hbg, ho0, hs0⟩ := h.own (by omega)
    replace hs0 : n * 1 ≤ cs0.size := by rw [hn]; exact hs0
    rw [rowOf_some h0]
    clear h0 h hn
    go_enter Tryz.func42, Tryz.ntmps42
    go_wp2
    go_loopw [1, 5] (fun m u wr => ∃ (k : Nat) (cs : Array Value), k ≤ n ∧ u = .int .i64 k ∧ m = .int .i64 (k0 + (k : Int)) ∧ n * 1 ≤ cs.size ∧ Hid (∀ i, i < k * 1 → cs[i]? = some (mkE bInt 1 k0 i)) ∧ Own wr g 3 cs ∧ w.grownBy wr (some g)) (fun _ u _ => n - (intOf u).toNat)
    case atStart => exact ⟨0, _, by omega, rfl, by simp, hs0, (fun i hi => absurd hi (by omega)), ho0, gRx _ _⟩
    case round =>
      obtain ⟨k, cs, hk, rfl, rfl, hcs, hc, hown, hg⟩ := hrel
      by_cases hlt : k < n
      ·
        obtain ⟨v0, hc0⟩ : ∃ v, wr.cell? ⟨g, k, none⟩ = some v := ⟨_, (hown.cell _).trans (Array.getElem?_eq_getElem (by omega))⟩
        have hf0 := hown.free (k)
        have HFIN := Lib.hid (hown.set_ (k) (.int .i64 (k0 + (k : Int))))
        have HNEW := Lib.hid (mark_at (cs := cs) (cs' := (cs.setIfInBounds (k) (.int .i64 (k0 + (k : Int))))) (k := k) (sz := 1) (f := mkE bInt 1 k0) (fun d hd => by
            match d, hd with
            | 0, _ => rw [show k * 1 + 0 = k by omega, mkInt0]; simp [Array.getElem?_setIfInBounds]; omega
            | d + 1, hd => omega)
          (fun i hi => by simp only [Array.getElem?_setIfInBounds]; repeat rw [if_neg (by omega)]) hc.out)
        have HCS := Lib.hid hcs
        clear hown hcs
        go_wp2
        go_roundw
        case rel => exact ⟨k + 1, _, by omega, by go_num, by go_num, by simp only [Array.size_setIfInBounds]; exact HCS.out, HNEW.out, HFIN.out, gSx (hg) _ _⟩
        case measure => simp [intOf]; omega
      · obtain rfl : k = n := by omega
        go_wp2
        go_ret
        exact ⟨rfl, ⟨fun _ => ⟨g, cs, rfl, hown, hcs, hc.out⟩⟩, hg, fun _ => ⟨g, cs0, rfl, ho0⟩⟩
set_option maxHeartbeats 2000000 in
theorem heldIntS_any (A : Option Addr) (n c : Nat) (w : World) (k0 : Int) (h : Mk (mkE bInt 1 k0) 1 3 w A n) (hk0 : 0 ≤ k0) (hk1 : k0 ≤ 1073741824) (hl : n ≤ 1048576) :
    Calls Tryz.prog 43 #[.slice A n c, .int .i64 k0] w fun r w' => r = .returned (.int .i64 (k0 + (n : Int))) ∧ Below w.heap.size w w' := by
  go_enter Tryz.func43, Tryz.ntmps43
  go_wp2
  go_loopw [1, 5] (fun m u wr => ∃ k : Nat, k ≤ n ∧ u = .int .i64 k ∧ m = .int .i64 (k0 + (k : Int)) ∧ Below w.heap.size w wr) (fun _ u _ => n - (intOf u).toNat)
  case atStart => exact ⟨0, by omega, rfl, by simp, bR⟩
  case round =>
    obtain ⟨k, hk, rfl, rfl, hb⟩ := hrel
    by_cases hlt : k < n
    · obtain ⟨g, cs, rfl, ho, hs, hc⟩ := (h.now hb).own (by omega)
      have h0 := ((ho.cell (k)).trans (hc (k) (by omega))).trans (congrArg some (mkInt0 k0 k))
      have q0 : (k0 + (k : Int) != k0 + (k : Int)) = false := by simp
      clear ho hc
      go_wp2
      go_roundw
      case rel => exact ⟨k + 1, by omega, by go_num, by go_num, hb⟩
      case measure => simp [intOf]; omega
    · obtain rfl : k = n := by omega
      go_wp2
      go_ret
      exact ⟨rfl, hb⟩
def bFrame : Nat → Bool := (fun d => d == 0)
theorem mkFrame0 (k0 : Int) (k : Nat) : mkE bFrame 5 k0 (k * 5) = .bool ((k0 + 5 * (k : Int)) % 3 == 0) := by
  unfold mkE
  rw [show (k * 5) % 5 = 0 by omega]
  rw [if_pos (by decide), show k0 + ((k * 5 : Nat) : Int) = k0 + 5 * (k : Int) by omega]
theorem mkFrame1 (k0 : Int) (k : Nat) : mkE bFrame 5 k0 (k * 5 + 1) = .int .i64 (k0 + 5 * (k : Int) + 1) := by
  unfold mkE
  rw [show (k * 5 + 1) % 5 = 1 by omega]
  rw [if_neg (by decide), show k0 + ((k * 5 + 1 : Nat) : Int) = k0 + 5 * (k : Int) + 1 by omega]
theorem mkFrame2 (k0 : Int) (k : Nat) : mkE bFrame 5 k0 (k * 5 + 2) = .int .i64 (k0 + 5 * (k : Int) + 1 + 1) := by
  unfold mkE
  rw [show (k * 5 + 2) % 5 = 2 by omega]
  rw [if_neg (by decide), show k0 + ((k * 5 + 2 : Nat) : Int) = k0 + 5 * (k : Int) + 1 + 1 by omega]
theorem mkFrame3 (k0 : Int) (k : Nat) : mkE bFrame 5 k0 (k * 5 + 3) = .int .i64 (k0 + 5 * (k : Int) + 1 + 1 + 1) := by
  unfold mkE
  rw [show (k * 5 + 3) % 5 = 3 by omega]
  rw [if_neg (by decide), show k0 + ((k * 5 + 3 : Nat) : Int) = k0 + 5 * (k : Int) + 1 + 1 + 1 by omega]
theorem mkFrame4 (k0 : Int) (k : Nat) : mkE bFrame 5 k0 (k * 5 + 4) = .int .i64 (k0 + 5 * (k : Int) + 1 + 1 + 1 + 1) := by
  unfold mkE
  rw [show (k * 5 + 4) % 5 = 4 by omega]
  rw [if_neg (by decide), show k0 + ((k * 5 + 4 : Nat) : Int) = k0 + 5 * (k : Int) + 1 + 1 + 1 + 1 by omega]
set_option maxHeartbeats 2000000 in
theorem markFrameS_any (B : Nat) (A : Option Addr) (c n : Nat) (l : List (Fr)) (w : World) (k0 : Int) (h : MineE frE 48 B w A l) (hn : n = l.length) (hk0 : 0 ≤ k0) (hk1 : k0 ≤ 1073741824) (hl : n ≤ 1048576) :
    Calls Tryz.prog 158 #[.slice A n c, .int .i64 k0] w fun r w' => r = .returned (.int .i64 (k0 + 5 * (n : Int))) ∧ Mk (mkE bFrame 5 k0) 5 48 w' A n ∧ w.grownBy w' (rowOf n A) ∧ (0 < n → ∃ g cs, A = some ⟨g, 0, none⟩ ∧ Own w g 48 cs) := by
  by_cases h0 : n = 0
  · subst h0
    go_enter Tryz.func158, Tryz.ntmps158
    go_wp2
    go_loopw [1, 5] (fun m u wr => m = .int .i64 k0 ∧ u = .int .i64 0 ∧ w = wr) (fun _ _ _ => 0)
    case atStart => exact ⟨rfl, rfl, rfl⟩
    case round =>
      obtain ⟨rfl, rfl, rfl⟩ := hrel
      go_wp2
      go_ret
      exact ⟨by simp, ⟨fun h => absurd h (by omega)⟩, gRx _ _, fun h => absurd h (by omega)⟩
  · obtain ⟨g, cs0, rfl, hbg, ho0, hs0⟩ := h.own (by omega)
    replace hs0 : n * 5 ≤ cs0.size := by rw [hn]; exact hs0
    rw [rowOf_some h0]
    clear h0 h hn
    go_enter Tryz.func158, Tryz.ntmps158
    go_wp2
    go_loopw [1, 5] (fun m u wr => ∃ (k : Nat) (cs : Array Value), k ≤ n ∧ u = .int .i64 k ∧ m = .int .i64 (k0 + 5 * (k : Int)) ∧ n * 5 ≤ cs.size ∧ Hid (∀ i, i < k * 5 → cs[i]? = some (mkE bFrame 5 k0 i)) ∧ Own wr g 48 cs ∧ w.grownBy wr (some g)) (fun _ u _ => n - (intOf u).toNat)
    case atStart => exact ⟨0, _, by omega, rfl, by simp, hs0, (fun i hi => absurd hi (by omega)), ho0, gRx _ _⟩
    case round =>
      obtain ⟨k, cs, hk, rfl, rfl, hcs, hc, hown, hg⟩ := hrel
      by_cases hlt : k < n
      ·
        obtain ⟨v0, hc0⟩ : ∃ v, wr.cell? ⟨g, k * 5, none⟩ = some v := ⟨_, (hown.cell _).trans (Array.getElem?_eq_getElem (by omega))⟩
        have hf0 := hown.free (k * 5)
        obtain ⟨v1, hc1⟩ : ∃ v, wr.cell? ⟨g, k * 5 + 1, none⟩ = some v := ⟨_, (hown.cell _).trans (Array.getElem?_eq_getElem (by omega))⟩
        have hf1 := hown.free (k * 5 + 1)
        obtain ⟨v2, hc2⟩ : ∃ v, wr.cell? ⟨g, k * 5 + 2, none⟩ = some v := ⟨_, (hown.cell _).trans (Array.getElem?_eq_getElem (by omega))⟩
        have hf2 := hown.free (k * 5 + 2)
        obtain ⟨v3, hc3⟩ : ∃ v, wr.cell? ⟨g, k * 5 + 3, none⟩ = some v := ⟨_, (hown.cell _).trans (Array.getElem?_eq_getElem (by omega))⟩
        have hf3 := hown.free (k * 5 + 3)
        obtain ⟨v4, hc4⟩ : ∃ v, wr.cell? ⟨g, k * 5 + 4, none⟩ = some v := ⟨_, (hown.cell _).trans (Array.getElem?_eq_getElem (by omega))⟩
        have hf4 := hown.free (k * 5 + 4)
        have HFIN := Lib.hid (((((hown.set_ (k * 5) (.bool ((k0 + 5 * (k : Int)) % 3 == 0))).set_ (k * 5 + 1) (.int .i64 (k0 + 5 * (k : Int) + 1))).set_ (k * 5 + 2) (.int .i64 (k0 + 5 * (k : Int) + 1 + 1))).set_ (k * 5 + 3) (.int .i64 (k0 + 5 * (k : Int) + 1 + 1 + 1))).set_ (k * 5 + 4) (.int .i64 (k0 + 5 * (k : Int) + 1 + 1 + 1 + 1)))
        have HNEW := Lib.hid (mark_at (cs := cs) (cs' := (((((cs.setIfInBounds (k * 5) (.bool ((k0 + 5 * (k : Int)) % 3 == 0))).setIfInBounds (k * 5 + 1) (.int .i64 (k0 + 5 * (k : Int) + 1))).setIfInBounds (k * 5 + 2) (.int .i64 (k0 + 5 * (k : Int) + 1 + 1))).setIfInBounds (k * 5 + 3) (.int .i64 (k0 + 5 * (k : Int) + 1 + 1 + 1))).setIfInBounds (k * 5 + 4) (.int .i64 (k0 + 5 * (k : Int) + 1 + 1 + 1 + 1)))) (k := k) (sz := 5) (f := mkE bFrame 5 k0) (fun d hd => by
            match d, hd with
            | 0, _ => rw [show k * 5 + 0 = k * 5 by omega, mkFrame0]; simp [Array.getElem?_setIfInBounds]; omega
            | 1, _ => rw [show k * 5 + 1 = k * 5 + 1 by omega, mkFrame1]; simp [Array.getElem?_setIfInBounds]; omega
            | 2, _ => rw [show k * 5 + 2 = k * 5 + 2 by omega, mkFrame2]; simp [Array.getElem?_setIfInBounds]; omega
            | 3, _ => rw [show k * 5 + 3 = k * 5 + 3 by omega, mkFrame3]; simp [Array.getElem?_setIfInBounds]; omega
            | 4, _ => rw [show k * 5 + 4 = k * 5 + 4 by omega, mkFrame4]; simp [Array.getElem?_setIfInBounds]; omega
            | d + 5, hd => omega)
          (fun i hi => by simp only [Array.getElem?_setIfInBounds]; repeat rw [if_neg (by omega)]) hc.out)
        have HCS := Lib.hid hcs
        clear hown hcs
        go_wp2
        go_roundw
        case rel => exact ⟨k + 1, _, by omega, by go_num, by go_num, by simp only [Array.size_setIfInBounds]; exact HCS.out, HNEW.out, HFIN.out, gSx (gSx (gSx (gSx (gSx (hg) _ _) _ _) _ _) _ _) _ _⟩
        case measure => simp [intOf]; omega
      · obtain rfl : k = n := by omega
        go_wp2
        go_ret
        exact ⟨rfl, ⟨fun _ => ⟨g, cs, rfl, hown, hcs, hc.out⟩⟩, hg, fun _ => ⟨g, cs0, rfl, ho0⟩⟩
set_option maxHeartbeats 2000000 in
theorem heldFrameS_any (A : Option Addr) (n c : Nat) (w : World) (k0 : Int) (h : Mk (mkE bFrame 5 k0) 5 48 w A n) (hk0 : 0 ≤ k0) (hk1 : k0 ≤ 1073741824) (hl : n ≤ 1048576) :
    Calls Tryz.prog 161 #[.slice A n c, .int .i64 k0] w fun r w' => r = .returned (.int .i64 (k0 + 5 * (n : Int))) ∧ Below w.heap.size w w' := by
  go_enter Tryz.func161, Tryz.ntmps161
  go_wp2
  go_loopw [1, 5] (fun m u wr => ∃ k : Nat, k ≤ n ∧ u = .int .i64 k ∧ m = .int .i64 (k0 + 5 * (k : Int)) ∧ Below w.heap.size w wr) (fun _ u _ => n - (intOf u).toNat)
  case atStart => exact ⟨0, by omega, rfl, by simp, bR⟩
  case round =>
    obtain ⟨k, hk, rfl, rfl, hb⟩ := hrel
    by_cases hlt : k < n
    · obtain ⟨g, cs, rfl, ho, hs, hc⟩ := (h.now hb).own (by omega)
      have h0 := ((ho.cell (k * 5)).trans (hc (k * 5) (by omega))).trans (congrArg some (mkFrame0 k0 k))
      have q0 := xne ((k0 + 5 * (k : Int)) % 3 == 0)
      have h1 := ((ho.cell (k * 5 + 1)).trans (hc (k * 5 + 1) (by omega))).trans (congrArg some (mkFrame1 k0 k))
      have q1 : (k0 + 5 * (k : Int) + 1 != k0 + 5 * (k : Int) + 1) = false := by simp
      have h2 := ((ho.cell (k * 5 + 2)).trans (hc (k * 5 + 2) (by omega))).trans (congrArg some (mkFrame2 k0 k))
      have q2 : (k0 + 5 * (k : Int) + 1 + 1 != k0 + 5 * (k : Int) + 1 + 1) = false := by simp
      have h3 := ((ho.cell (k * 5 + 3)).trans (hc (k * 5 + 3) (by omega))).trans (congrArg some (mkFrame3 k0 k))
      have q3 : (k0 + 5 * (k : Int) + 1 + 1 + 1 != k0 + 5 * (k : Int) + 1 + 1 + 1) = false := by simp
      have h4 := ((ho.cell (k * 5 + 4)).trans (hc (k * 5 + 4) (by omega))).trans (congrArg some (mkFrame4 k0 k))
      have q4 : (k0 + 5 * (k : Int) + 1 + 1 + 1 + 1 != k0 + 5 * (k : Int) + 1 + 1 + 1 + 1) = false := by simp
      clear ho hc
      go_wp2
      go_roundw
      case rel => exact ⟨k + 1, by omega, by go_num, by go_num, hb⟩
      case measure => simp [intOf]; omega
    · obtain rfl : k = n := by omega
      go_wp2
      go_ret
      exact ⟨rfl, hb⟩
def bLine : Nat → Bool := (fun d => d == 0 || d == 5)
theorem mkLine0 (k0 : Int) (k : Nat) : mkE bLine 6 k0 (k * 6) = .bool ((k0 + 6 * (k : Int)) % 3 == 0) := by
  unfold mkE
  rw [show (k * 6) % 6 = 0 by omega]
  rw [if_pos (by decide), show k0 + ((k * 6 : Nat) : Int) = k0 + 6 * (k : Int) by omega]
theorem mkLine1 (k0 : Int) (k : Nat) : mkE bLine 6 k0 (k * 6 + 1) = .int .i64 (k0 + 6 * (k : Int) + 1) := by
  unfold mkE
  rw [show (k * 6 + 1) % 6 = 1 by omega]
  rw [if_neg (by decide), show k0 + ((k * 6 + 1 : Nat) : Int) = k0 + 6 * (k : Int) + 1 by omega]
theorem mkLine2 (k0 : Int) (k : Nat) : mkE bLine 6 k0 (k * 6 + 2) = .int .i64 (k0 + 6 * (k : Int) + 1 + 1) := by
  unfold mkE
  rw [show (k * 6 + 2) % 6 = 2 by omega]
  rw [if_neg (by decide), show k0 + ((k * 6 + 2 : Nat) : Int) = k0 + 6 * (k : Int) + 1 + 1 by omega]
theorem mkLine3 (k0 : Int) (k : Nat) : mkE bLine 6 k0 (k * 6 + 3) = .int .i64 (k0 + 6 * (k : Int) + 1 + 1 + 1) := by
  unfold mkE
  rw [show (k * 6 + 3) % 6 = 3 by omega]
  rw [if_neg (by decide), show k0 + ((k * 6 + 3 : Nat) : Int) = k0 + 6 * (k : Int) + 1 + 1 + 1 by omega]
theorem mkLine4 (k0 : Int) (k : Nat) : mkE bLine 6 k0 (k * 6 + 4) = .int .i64 (k0 + 6 * (k : Int) + 1 + 1 + 1 + 1) := by
  unfold mkE
  rw [show (k * 6 + 4) % 6 = 4 by omega]
  rw [if_neg (by decide), show k0 + ((k * 6 + 4 : Nat) : Int) = k0 + 6 * (k : Int) + 1 + 1 + 1 + 1 by omega]
theorem mkLine5 (k0 : Int) (k : Nat) : mkE bLine 6 k0 (k * 6 + 5) = .bool ((k0 + 6 * (k : Int) + 1 + 1 + 1 + 1 + 1) % 3 == 0) := by
  unfold mkE
  rw [show (k * 6 + 5) % 6 = 5 by omega]
  rw [if_pos (by decide), show k0 + ((k * 6 + 5 : Nat) : Int) = k0 + 6 * (k : Int) + 1 + 1 + 1 + 1 + 1 by omega]
set_option maxHeartbeats 2000000 in
theorem markLineS_any (B : Nat) (A : Option Addr) (c n : Nat) (l : List (Ln)) (w : World) (k0 : Int) (h : MineE lnE 106 B w A l) (hn : n = l.length) (hk0 : 0 ≤ k0) (hk1 : k0 ≤ 1073741824) (hl : n ≤ 1048576) :
    Calls Tryz.prog 159 #[.slice A n c, .int .i64 k0] w fun r w' => r = .returned (.int .i64 (k0 + 6 * (n : Int))) ∧ Mk (mkE bLine 6 k0) 6 106 w' A n ∧ w.grownBy w' (rowOf n A) ∧ (0 < n → ∃ g cs, A = some ⟨g, 0, none⟩ ∧ Own w g 106 cs) := by
  by_cases h0 : n = 0
  · subst h0
    go_enter Tryz.func159, Tryz.ntmps159
    go_wp2
    go_loopw [1, 5] (fun m u wr => m = .int .i64 k0 ∧ u = .int .i64 0 ∧ w = wr) (fun _ _ _ => 0)
    case atStart => exact ⟨rfl, rfl, rfl⟩
    case round =>
      obtain ⟨rfl, rfl, rfl⟩ := hrel
      go_wp2
      go_ret
      exact ⟨by simp, ⟨fun h => absurd h (by omega)⟩, gRx _ _, fun h => absurd h (by omega)⟩
  · obtain ⟨g, cs0, rfl, hbg, ho0, hs0⟩ := h.own (by omega)
    replace hs0 : n * 6 ≤ cs0.size := by rw [hn]; exact hs0
    rw [rowOf_some h0]
    clear h0 h hn
    go_enter Tryz.func159, Tryz.ntmps159
    go_wp2
    go_loopw [1, 5] (fun m u wr => ∃ (k : Nat) (cs : Array Value), k ≤ n ∧ u = .int .i64 k ∧ m = .int .i64 (k0 + 6 * (k : Int)) ∧ n * 6 ≤ cs.size ∧ Hid (∀ i, i < k * 6 → cs[i]? = some (mkE bLine 6 k0 i)) ∧ Own wr g 106 cs ∧ w.grownBy wr (some g)) (fun _ u _ => n - (intOf u).toNat)
    case atStart => exact ⟨0, _, by omega, rfl, by simp, hs0, (fun i hi => absurd hi (by omega)), ho0, gRx _ _⟩
    case round =>
      obtain ⟨k, cs, hk, rfl, rfl, hcs, hc, hown, hg⟩ := hrel
      by_cases hlt : k < n
      ·
        obtain ⟨v0, hc0⟩ : ∃ v, wr.cell? ⟨g, k * 6, none⟩ = some v := ⟨_, (hown.cell _).trans (Array.getElem?_eq_getElem (by omega))⟩
        have hf0 := hown.free (k * 6)
        obtain ⟨v1, hc1⟩ : ∃ v, wr.cell? ⟨g, k * 6 + 1, none⟩ = some v := ⟨_, (hown.cell _).trans (Array.getElem?_eq_getElem (by omega))⟩
        have hf1 := hown.free (k * 6 + 1)
        obtain ⟨v2, hc2⟩ : ∃ v, wr.cell? ⟨g, k * 6 + 2, none⟩ = some v := ⟨_, (hown.cell _).trans (Array.getElem?_eq_getElem (by omega))⟩
        have hf2 := hown.free (k * 6 + 2)
        obtain ⟨v3, hc3⟩ : ∃ v, wr.cell? ⟨g, k * 6 + 3, none⟩ = some v := ⟨_, (hown.cell _).trans (Array.getElem?_eq_getElem (by omega))⟩
        have hf3 := hown.free (k * 6 + 3)
        obtain ⟨v4, hc4⟩ : ∃ v, wr.cell? ⟨g, k * 6 + 4, none⟩ = some v := ⟨_, (hown.cell _).trans (Array.getElem?_eq_getElem (by omega))⟩
        have hf4 := hown.free (k * 6 + 4)
        obtain ⟨v5, hc5⟩ : ∃ v, wr.cell? ⟨g, k * 6 + 5, none⟩ = some v := ⟨_, (hown.cell _).trans (Array.getElem?_eq_getElem (by omega))⟩
        have hf5 := hown.free (k * 6 + 5)
        have HFIN := Lib.hid ((((((hown.set_ (k * 6) (.bool ((k0 + 6 * (k : Int)) % 3 == 0))).set_ (k * 6 + 1) (.int .i64 (k0 + 6 * (k : Int) + 1))).set_ (k * 6 + 2) (.int .i64 (k0 + 6 * (k : Int) + 1 + 1))).set_ (k * 6 + 3) (.int .i64 (k0 + 6 * (k : Int) + 1 + 1 + 1))).set_ (k * 6 + 4) (.int .i64 (k0 + 6 * (k : Int) + 1 + 1 + 1 + 1))).set_ (k * 6 + 5) (.bool ((k0 + 6 * (k : Int) + 1 + 1 + 1 + 1 + 1) % 3 == 0)))
        have HNEW := Lib.hid (mark_at (cs := cs) (cs' := ((((((cs.setIfInBounds (k * 6) (.bool ((k0 + 6 * (k : Int)) % 3 == 0))).setIfInBounds (k * 6 + 1) (.int .i64 (k0 + 6 * (k : Int) + 1))).setIfInBounds (k * 6 + 2) (.int .i64 (k0 + 6 * (k : Int) + 1 + 1))).setIfInBounds (k * 6 + 3) (.int .i64 (k0 + 6 * (k : Int) + 1 + 1 + 1))).setIfInBounds (k * 6 + 4) (.int .i64 (k0 + 6 * (k : Int) + 1 + 1 + 1 + 1))).setIfInBounds (k * 6 + 5) (.bool ((k0 + 6 * (k : Int) + 1 + 1 + 1 + 1 + 1) % 3 == 0)))) (k := k) (sz := 6) (f := mkE bLine 6 k0) (fun d hd => by
            match d, hd with
            | 0, _ => rw [show k * 6 + 0 = k * 6 by omega, mkLine0]; simp [Array.getElem?_setIfInBounds]; omega
            | 1, _ => rw [show k * 6 + 1 = k * 6 + 1 by omega, mkLine1]; simp [Array.getElem?_setIfInBounds]; omega
            | 2, _ => rw [show k * 6 + 2 = k * 6 + 2 by omega, mkLine2]; simp [Array.getElem?_setIfInBounds]; omega
            | 3, _ => rw [show k * 6 + 3 = k * 6 + 3 by omega, mkLine3]; simp [Array.getElem?_setIfInBounds]; omega
            | 4, _ => rw [show k * 6 + 4 = k * 6 + 4 by omega, mkLine4]; simp [Array.getElem?_setIfInBounds]; omega
            | 5, _ => rw [show k * 6 + 5 = k * 6 + 5 by omega, mkLine5]; simp [Array.getElem?_setIfInBounds]; omega
            | d + 6, hd => omega)
          (fun i hi => by simp only [Array.getElem?_setIfInBounds]; repeat rw [if_neg (by omega)]) hc.out)
        have HCS := Lib.hid hcs
        clear hown hcs
        go_wp2
        go_roundw
        case rel => exact ⟨k + 1, _, by omega, by go_num, by go_num, by simp only [Array.size_setIfInBounds]; exact HCS.out, HNEW.out, HFIN.out, gSx (gSx (gSx (gSx (gSx (gSx (hg) _ _) _ _) _ _) _ _) _ _) _ _⟩
        case measure => simp [intOf]; omega
      · obtain rfl : k = n := by omega
        go_wp2
        go_ret
        exact ⟨rfl, ⟨fun _ => ⟨g, cs, rfl, hown, hcs, hc.out⟩⟩, hg, fun _ => ⟨g, cs0, rfl, ho0⟩⟩
set_option maxHeartbeats 2000000 in
theorem heldLineS_any (A : Option Addr) (n c : Nat) (w : World) (k0 : Int) (h : Mk (mkE bLine 6 k0) 6 106 w A n) (hk0 : 0 ≤ k0) (hk1 : k0 ≤ 1073741824) (hl : n ≤ 1048576) :
    Calls Tryz.prog 162 #[.slice A n c, .int .i64 k0] w fun r w' => r = .returned (.int .i64 (k0 + 6 * (n : Int))) ∧ Below w.heap.size w w' := by
  go_enter Tryz.func162, Tryz.ntmps162
  go_wp2
  go_loopw [1, 5] (fun m u wr => ∃ k : Nat, k ≤ n ∧ u = .int .i64 k ∧ m = .int .i64 (k0 + 6 * (k : Int)) ∧ Below w.heap.size w wr) (fun _ u _ => n - (intOf u).toNat)
  case atStart => exact ⟨0, by omega, rfl, by simp, bR⟩
  case round =>
    obtain ⟨k, hk, rfl, rfl, hb⟩ := hrel
    by_cases hlt : k < n
    · obtain ⟨g, cs, rfl, ho, hs, hc⟩ := (h.now hb).own (by omega)
      have h0 := ((ho.cell (k * 6)).trans (hc (k * 6) (by omega))).trans (congrArg some (mkLine0 k0 k))
      have q0 := xne ((k0 + 6 * (k : Int)) % 3 == 0)
      have h1 := ((ho.cell (k * 6 + 1)).trans (hc (k * 6 + 1) (by omega))).trans (congrArg some (mkLine1 k0 k))
      have q1 : (k0 + 6 * (k : Int) + 1 != k0 + 6 * (k : Int) + 1) = false := by simp
      have h2 := ((ho.cell (k * 6 + 2)).trans (hc (k * 6 + 2) (by omega))).trans (congrArg some (mkLine2 k0 k))
      have q2 : (k0 + 6 * (k : Int) + 1 + 1 != k0 + 6 * (k : Int) + 1 + 1) = false := by simp
      have h3 := ((ho.cell (k * 6 + 3)).trans (hc (k * 6 + 3) (by omega))).trans (congrArg some (mkLine3 k0 k))
      have q3 : (k0 + 6 * (k : Int) + 1 + 1 + 1 != k0 + 6 * (k : Int) + 1 + 1 + 1) = false := by simp
      have h4 := ((ho.cell (k * 6 + 4)).trans (hc (k * 6 + 4) (by omega))).trans (congrArg some (mkLine4 k0 k))
      have q4 : (k0 + 6 * (k : Int) + 1 + 1 + 1 + 1 != k0 + 6 * (k : Int) + 1 + 1 + 1 + 1) = false := by simp
      have h5 := ((ho.cell (k * 6 + 5)).trans (hc (k * 6 + 5) (by omega))).trans (congrArg some (mkLine5 k0 k))
      have q5 := xne ((k0 + 6 * (k : Int) + 1 + 1 + 1 + 1 + 1) % 3 == 0)
      clear ho hc
      go_wp2
      go_roundw
      case rel => exact ⟨k + 1, by omega, by go_num, by go_num, hb⟩
      case measure => simp [intOf]; omega
    · obtain rfl : k = n := by omega
      go_wp2
      go_ret
      exact ⟨rfl, hb⟩
def bOwn : Nat → Bool := (fun d => false)
theorem mkOwn0 (k0 : Int) (k : Nat) : mkE bOwn 2 k0 (k * 2) = .int .i64 (k0 + 2 * (k : Int)) := by
  unfold mkE
  rw [show (k * 2) % 2 = 0 by omega]
  rw [if_neg (by decide), show k0 + ((k * 2 : Nat) : Int) = k0 + 2 * (k : Int) by omega]
theorem mkOwn1 (k0 : Int) (k : Nat) : mkE bOwn 2 k0 (k * 2 + 1) = .int .i64 (k0 + 2 * (k : Int) + 1) := by
  unfold mkE
  rw [show (k * 2 + 1) % 2 = 1 by omega]
  rw [if_neg (by decide), show k0 + ((k * 2 + 1 : Nat) : Int) = k0 + 2 * (k : Int) + 1 by omega]
set_option maxHeartbeats 2000000 in
theorem markOwnS_any (B : Nat) (A : Option Addr) (c n : Nat) (l : List (Int × Int)) (w : World) (k0 : Int) (h : MineE owE 155 B w A l) (hn : n = l.length) (hk0 : 0 ≤ k0) (hk1 : k0 ≤ 1073741824) (hl : n ≤ 1048576) :
    Calls Tryz.prog 160 #[.slice A n c, .int .i64 k0] w fun r w' => r = .returned (.int .i64 (k0 + 2 * (n : Int))) ∧ Mk (mkE bOwn 2 k0) 2 155 w' A n ∧ w.grownBy w' (rowOf n A) ∧ (0 < n → ∃ g cs, A = some ⟨g, 0, none⟩ ∧ Own w g 155 cs) := by
  by_cases h0 : n = 0
  · subst h0
    go_enter Tryz.func160, Tryz.ntmps160
    go_wp2
    go_loopw [1, 5] (fun m u wr => m = .int .i64 k0 ∧ u = .int .i64 0 ∧ w = wr) (fun _ _ _ => 0)
    case atStart => exact ⟨rfl, rfl, rfl⟩
    case round =>
      obtain ⟨rfl, rfl, rfl⟩ := hrel
      go_wp2
      go_ret
      exact ⟨by simp, ⟨fun h => absurd h (by omega)⟩, gRx _ _, fun h => absurd h (by omega)⟩
  · obtain ⟨g, cs0, rfl, hbg, ho0, hs0⟩ := h.own (by omega)
    replace hs0 : n * 2 ≤ cs0.size := by rw [hn]; exact hs0
    rw [rowOf_some h0]
    clear h0 h hn
    go_enter Tryz.func160, Tryz.ntmps160
    go_wp2
    go_loopw [1, 5] (fun m u wr => ∃ (k : Nat) (cs : Array Value), k ≤ n ∧ u = .int .i64 k ∧ m = .int .i64 (k0 + 2 * (k : Int)) ∧ n * 2 ≤ cs.size ∧ Hid (∀ i, i < k * 2 → cs[i]? = some (mkE bOwn 2 k0 i)) ∧ Own wr g 155 cs ∧ w.grownBy wr (some g)) (fun _ u _ => n - (intOf u).toNat)
    case atStart => exact ⟨0, _, by omega, rfl, by simp, hs0, (fun i hi => absurd hi (by omega)), ho0, gRx _ _⟩
    case round =>
      obtain ⟨k, cs, hk, rfl, rfl, hcs, hc, hown, hg⟩ := hrel
      by_cases hlt : k < n
      ·
        obtain ⟨v0, hc0⟩ : ∃ v, wr.cell? ⟨g, k * 2, none⟩ = some v := ⟨_, (hown.cell _).trans (Array.getElem?_eq_getElem (by omega))⟩
        have hf0 := hown.free (k * 2)
        obtain ⟨v1, hc1⟩ : ∃ v, wr.cell? ⟨g, k * 2 + 1, none⟩ = some v := ⟨_, (hown.cell _).trans (Array.getElem?_eq_getElem (by omega))⟩
        have hf1 := hown.free (k * 2 + 1)
        have HFIN := Lib.hid ((hown.set_ (k * 2) (.int .i64 (k0 + 2 * (k : Int)))).set_ (k * 2 + 1) (.int .i64 (k0 + 2 * (k : Int) + 1)))
        have HNEW := Lib.hid (mark_at (cs := cs) (cs' := ((cs.setIfInBounds (k * 2) (.int .i64 (k0 + 2 * (k : Int)))).setIfInBounds (k * 2 + 1) (.int .i64 (k0 + 2 * (k : Int) + 1)))) (k := k) (sz := 2) (f := mkE bOwn 2 k0) (fun d hd => by
            match d, hd with
            | 0, _ => rw [show k * 2 + 0 = k * 2 by omega, mkOwn0]; simp [Array.getElem?_setIfInBounds]; omega
            | 1, _ => rw [show k * 2 + 1 = k * 2 + 1 by omega, mkOwn1]; simp [Array.getElem?_setIfInBounds]; omega
            | d + 2, hd => omega)
          (fun i hi => by simp only [Array.getElem?_setIfInBounds]; repeat rw [if_neg (by omega)]) hc.out)
        have HCS := Lib.hid hcs
        clear hown hcs
        go_wp2
        go_roundw
        case rel => exact ⟨k + 1, _, by omega, by go_num, by go_num, by simp only [Array.size_setIfInBounds]; exact HCS.out, HNEW.out, HFIN.out, gSx (gSx (hg) _ _) _ _⟩
        case measure => simp [intOf]; omega
      · obtain rfl : k = n := by omega
        go_wp2
        go_ret
        exact ⟨rfl, ⟨fun _ => ⟨g, cs, rfl, hown, hcs, hc.out⟩⟩, hg, fun _ => ⟨g, cs0, rfl, ho0⟩⟩
set_option maxHeartbeats 2000000 in
theorem heldOwnS_any (A : Option Addr) (n c : Nat) (w : World) (k0 : Int) (h : Mk (mkE bOwn 2 k0) 2 155 w A n) (hk0 : 0 ≤ k0) (hk1 : k0 ≤ 1073741824) (hl : n ≤ 1048576) :
    Calls Tryz.prog 163 #[.slice A n c, .int .i64 k0] w fun r w' => r = .returned (.int .i64 (k0 + 2 * (n : Int))) ∧ Below w.heap.size w w' := by
  go_enter Tryz.func163, Tryz.ntmps163
  go_wp2
  go_loopw [1, 5] (fun m u wr => ∃ k : Nat, k ≤ n ∧ u = .int .i64 k ∧ m = .int .i64 (k0 + 2 * (k : Int)) ∧ Below w.heap.size w wr) (fun _ u _ => n - (intOf u).toNat)
  case atStart => exact ⟨0, by omega, rfl, by simp, bR⟩
  case round =>
    obtain ⟨k, hk, rfl, rfl, hb⟩ := hrel
    by_cases hlt : k < n
    · obtain ⟨g, cs, rfl, ho, hs, hc⟩ := (h.now hb).own (by omega)
      have h0 := ((ho.cell (k * 2)).trans (hc (k * 2) (by omega))).trans (congrArg some (mkOwn0 k0 k))
      have q0 : (k0 + 2 * (k : Int) != k0 + 2 * (k : Int)) = false := by simp
      have h1 := ((ho.cell (k * 2 + 1)).trans (hc (k * 2 + 1) (by omega))).trans (congrArg some (mkOwn1 k0 k))
      have q1 : (k0 + 2 * (k : Int) + 1 != k0 + 2 * (k : Int) + 1) = false := by simp
      clear ho hc
      go_wp2
      go_roundw
      case rel => exact ⟨k + 1, by omega, by go_num, by go_num, hb⟩
      case measure => simp [intOf]; omega
    · obtain rfl : k = n := by omega
      go_wp2
      go_ret
      exact ⟨rfl, hb⟩
end Go.Proofs.YtnaagdmaggdbmaaGreatDoor
