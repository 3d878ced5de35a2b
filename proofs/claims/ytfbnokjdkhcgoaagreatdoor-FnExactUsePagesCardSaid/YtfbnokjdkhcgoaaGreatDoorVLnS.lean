/- A part of the proofs of this seat: LnS, MvS. -/
import Derived.Test.YtfbnokjdkhcgoaaGreatDoorVRel
set_option linter.unusedVariables false
set_option linter.unusedSimpArgs false
set_option maxRecDepth 1000000
namespace Go.Proofs.YtfbnokjdkhcgoaaGreatDoor
open Go.RowKit
set_option maxHeartbeats 4000000 in
theorem l6Line_any (vb vf vl vo : Value) (m : Ma) (xt xp xf xr : Int) (xw : Bool) (w : World) (hM : MaR w vb vf vl vo m) (htv : tv m.t = true) (hgv : tgv m.g = true) (hp256 : inR xp 256 = true) :
    Calls Tryz.prog 134 #[.agg #[vb, vf, vl, .int .i64 m.c.hand, .int .i64 m.g.count, .int .i64 m.g.next, .int .i64 m.g.round, vo, .int .i64 m.sp], .agg #[.bool true, .int .i64 xt, .int .i64 xp, .int .i64 xf, .int .i64 xr, .bool xw]] w fun r w' => r = .returned (.bool (lnM m ⟨true, xt, xp, xf, xr, xw⟩)) ∧ Below w.heap.size w w' := by
  have HM := Hd hM
  obtain ⟨Af, cf, rfl, hfc, hfm, hF⟩ := hM.t.f
  have HFS := Hd hF
  clear hM hF
  have hbx := (Own.new_ w 34 #[vb, .slice Af m.t.fs.length cf, vl, .int .i64 m.c.hand, .int .i64 m.g.count, .int .i64 m.g.next, .int .i64 m.g.round, vo, .int .i64 m.sp]).alloc (o := .cells #[.bool true, .int .i64 xt, .int .i64 xp, .int .i64 xf, .int .i64 xr, .bool xw] 50)
  have hbl := Own.new_ (w.alloc (.cells #[vb, .slice Af m.t.fs.length cf, vl, .int .i64 m.c.hand, .int .i64 m.g.count, .int .i64 m.g.next, .int .i64 m.g.round, vo, .int .i64 m.sp] 34)) 50 #[.bool true, .int .i64 xt, .int .i64 xp, .int .i64 xf, .int .i64 xr, .bool xw]
  have hb0 : Below w.heap.size w ((w.alloc (.cells #[vb, .slice Af m.t.fs.length cf, vl, .int .i64 m.c.hand, .int .i64 m.g.count, .int .i64 m.g.next, .int .i64 m.g.round, vo, .int .i64 m.sp] 34)).alloc (.cells #[.bool true, .int .i64 xt, .int .i64 xp, .int .i64 xf, .int .i64 xr, .bool xw] 50)) := bA (bA bR)
  rw [show (w.alloc (.cells #[vb, .slice Af m.t.fs.length cf, vl, .int .i64 m.c.hand, .int .i64 m.g.count, .int .i64 m.g.next, .int .i64 m.g.round, vo, .int .i64 m.sp] 34)).heap.size = w.heap.size + 1 by simp] at hbl
  generalize hW : (w.alloc (.cells #[vb, .slice Af m.t.fs.length cf, vl, .int .i64 m.c.hand, .int .i64 m.g.count, .int .i64 m.g.next, .int .i64 m.g.round, vo, .int .i64 m.sp] 34)).alloc (.cells #[.bool true, .int .i64 xt, .int .i64 xp, .int .i64 xf, .int .i64 xr, .bool xw] 50) = W0 at hbx hbl hb0
  have HX0 := Hd hbx
  have HL0 := Hd hbl
  have HB0 := Hd hb0
  clear hbx hbl hb0
  have m0 := HX0.out.cell_ 0 (v := vb) rfl
  have m1 := HX0.out.cell_ 1 (v := .slice Af m.t.fs.length cf) rfl
  have m4 := HX0.out.cell_ 4 (v := .int .i64 m.g.count) rfl
  have m5 := HX0.out.cell_ 5 (v := .int .i64 m.g.next) rfl
  have m6 := HX0.out.cell_ 6 (v := .int .i64 m.g.round) rfl
  have m7 := HX0.out.cell_ 7 (v := vo) rfl
  have x1 := HL0.out.cell_ 1 (v := .int .i64 xt) rfl
  have x2 := HL0.out.cell_ 2 (v := .int .i64 xp) rfl
  by_cases hp : 128 ≤ xp
  case pos =>
    by_cases ht : xt = -1
    case neg =>
      have HE : Hid (lnM m ⟨true, xt, xp, xf, xr, xw⟩ = false) := lnM_sh rfl (fun h => ht (h.1 hp))
      have ht3 : (xt == (-1 : Int)) = false := by rw [beq_eq_false_iff_ne]; exact ht
      go_enter Tryz.func134, Tryz.ntmps134
      go_wp2
      go_ret
      exact ⟨by rw [HE.out]; rfl, HB0.out⟩
    case pos =>
      subst ht
      have hln := lnM_at2 (m := m) (f := xf) (r := xr) (w := xw) ⟨fun _ => rfl, fun _ => hp⟩ (lnSp_sh hp)
      have hkv := lnSp_kval (m := m) (x := ⟨true, -1, xp, xf, xr, xw⟩) hgv hp256 (lnSp_sh hp)
      go_enter Tryz.func134, Tryz.ntmps134
      go_wp2
      have HK := Hd (sKeyFor_any 0 xp)
      have HFN := Hd (fun W (h : TaR W vb (.slice Af m.t.fs.length cf) m.t) => l3Find_any vb (.slice Af m.t.fs.length cf) m.t (keyI 0 xp) xp W h htv hkv)
      have hidx := @fndI_lt m.t.fs (keyI 0 xp) xp
      generalize keyI 0 xp = ks at *
      generalize hN : fndI m.t.fs ks xp = N at *
      go_region_held_law (fun w' => w'.cell? ⟨w.heap.size, 0, none⟩ = some vb ∧ w'.cell? ⟨w.heap.size, 1, none⟩ = some (.slice Af m.t.fs.length cf) ∧ w'.cell? ⟨w.heap.size + 1, 2, none⟩ = some (.int .i64 xp)) (go_keep) (first
        | (go_at_call 52
           refine (HK.out _).mono ?_
           rintro _ w5 ⟨rfl, hb5⟩
           have HB5 := Hd (bT (bD HB0.out) hb5)
           have HX5 := Hd (HX0.out.drew.below hb5)
           have HL5 := Hd (HL0.out.drew.below hb5)
           have d0 := HX5.out.cell_ 0 (v := vb) rfl
           have d1 := HX5.out.cell_ 1 (v := .slice Af m.t.fs.length cf) rfl
           have d2 := HL5.out.cell_ 2 (v := .int .i64 xp) rfl
           clear hb5)
        | (go_at_call 51
           refine (HFN.out _ (HM.out.t.now HB5.out)).mono ?_
           rintro _ w6 ⟨stp, rfl, hb6⟩
           have HB6 := Hd (bT HB5.out hb6)
           have HX6 := Hd (HX5.out.below hb6)
           have HL6 := Hd (HL5.out.below hb6)
           have e0 := HX6.out.cell_ 0 (v := vb) rfl
           have e1 := HX6.out.cell_ 1 (v := .slice Af m.t.fs.length cf) rfl
           have e2 := HL6.out.cell_ 2 (v := .int .i64 xp) rfl
           clear hb6 d0 d1 d2))
      all_goals
        clear m0 m1 m4 m5 m6 m7 x1 x2 e0 e1 e2
        have l1 := xcell (HL6.out.cell_ 1 (v := .int .i64 (-1)) rfl) HL6.out.lt
        have l3 := xcell (HL6.out.cell_ 3 (v := .int .i64 xf) rfl) HL6.out.lt
        have l4 := xcell (HL6.out.cell_ 4 (v := .int .i64 xr) rfl) HL6.out.lt
        have l5 := xcell (HL6.out.cell_ 5 (v := .bool xw) rfl) HL6.out.lt
        have l6 := xcell (HX6.out.cell_ 1 (v := .slice Af m.t.fs.length cf) rfl) HX6.out.lt
        by_cases hn : 0 ≤ N
        case neg =>
          have HE : Hid (lnM m ⟨true, -1, xp, xf, xr, xw⟩ = false) := by show _ = _; rw [hln, decide_eq_false hn]; rfl
          clear hidx hln
          go_wp2
          have hn2 : ¬ 0 ≤ N := by omega
          refine wp_region_ext (by kernel_rfl) (by kernel_rfl) ?_
          repeat (go_big_quiet_step (fail))
          refine wpQuiet_nil ?_
          intro _ hw'
          obtain ⟨⟨wq, hq⟩, hw''⟩ := hw'
          subst hw''
          try dsimp only
          go_wp2
          go_ret
          exact ⟨by rw [HE.out]; rfl, bT HB6.out hq⟩
        case pos =>
          obtain ⟨i, f, rfl, ef, _, _⟩ := hidx hn
          obtain ⟨b', o', eA, hbb', f0, f1, f2, f3, f4⟩ := (HFS.out.below HB6.out).fr ef
          subst eA
          have hfr := xcell f3 (by have := HB6.out.size; show b' < _; omega)
          rw [decide_eq_true hn, Int.toNat_natCast, List.getD_eq_getElem?_getD, ef, Option.getD_some, Bool.true_and] at hln
          have hil := (List.getElem?_eq_some_iff.1 ef).1
          clear f0 f1 f2 f3 f4 ef hidx
          by_cases hf : (i : Int) = xf
          case neg =>
            have HE : Hid (lnM m ⟨true, -1, xp, xf, xr, xw⟩ = false) := by show _ = _; rw [hln, decide_eq_false hf]; rfl
            clear hln
            go_wp2
            have hf2 : ((i : Int) == xf) = false := by rw [beq_eq_false_iff_ne]; exact hf
            have hn2 : 0 ≤ (i : Int) := by omega
            refine wp_region_ext (by kernel_rfl) (by kernel_rfl) ?_
            repeat (go_big_quiet_step (fail))
            refine wpQuiet_nil ?_
            intro _ hw'
            obtain ⟨⟨wq, hq⟩, hw''⟩ := hw'
            subst hw''
            try dsimp only
            go_wp2
            go_ret
            exact ⟨by rw [HE.out]; rfl, bT HB6.out hq⟩
          case pos =>
          subst hf
          by_cases hr : f.r = xr
          case neg =>
            have HE : Hid (lnM m ⟨true, -1, xp, i, xr, xw⟩ = false) := by show _ = _; rw [hln, decide_eq_false hr]; simp
            clear hln
            go_wp2
            have hr2 : (f.r == xr) = false := by rw [beq_eq_false_iff_ne]; exact hr
            have hn2 : 0 ≤ (i : Int) := by omega
            refine wp_region_ext (by kernel_rfl) (by kernel_rfl) ?_
            repeat (go_big_quiet_step (fail))
            refine wpQuiet_nil ?_
            intro _ hw'
            obtain ⟨⟨wq, hq⟩, hw''⟩ := hw'
            subst hw''
            try dsimp only
            go_wp2
            go_ret
            exact ⟨by rw [HE.out]; rfl, bT HB6.out hq⟩
          case pos =>
            subst hr
            rw [decide_eq_true rfl, decide_eq_true rfl, Bool.true_and, Bool.true_and] at hln
            cases xw with
            | false =>
              have HE : Hid (lnM m ⟨true, -1, xp, i, f.r, false⟩ = true) := by show _ = _; rw [hln]; rfl
              clear hln
              go_wp2
              have hf2 : ((i : Int) == (i : Int)) = true := beq_self_eq_true _
              have hr2 : (f.r == f.r) = true := beq_self_eq_true _
              have hn2 : 0 ≤ (i : Int) := by omega
              refine wp_region_ext (by kernel_rfl) (by kernel_rfl) ?_
              repeat (go_big_quiet_step (fail))
              refine wpQuiet_nil ?_
              intro _ hw'
              obtain ⟨⟨wq, hq⟩, hw''⟩ := hw'
              subst hw''
              try dsimp only
              go_wp2
              go_ret
              exact ⟨by rw [HE.out]; rfl, bT HB6.out hq⟩
            | true =>
              have HE : Hid (lnM m ⟨true, -1, xp, i, f.r, true⟩ = true) := by show _ = _; rw [hln, decide_eq_true hp]; rfl
              clear hln
              go_wp2
              have hf2 : ((i : Int) == (i : Int)) = true := beq_self_eq_true _
              have hr2 : (f.r == f.r) = true := beq_self_eq_true _
              have hn2 : 0 ≤ (i : Int) := by omega
              have ht4 : ((-1 : Int) == (-1 : Int)) = true := rfl
              refine wp_region_ext (by kernel_rfl) (by kernel_rfl) ?_
              repeat (go_big_quiet_step (fail))
              refine wpQuiet_nil ?_
              intro _ hw'
              obtain ⟨⟨wq, hq⟩, hw''⟩ := hw'
              subst hw''
              try dsimp only
              go_wp2
              go_ret
              exact ⟨by rw [HE.out]; rfl, bT HB6.out hq⟩
  case neg =>
    by_cases ht : xt = -1
    case pos =>
      subst ht
      have HE : Hid (lnM m ⟨true, -1, xp, xf, xr, xw⟩ = false) := lnM_sh rfl (fun h => hp (h.2 rfl))
      go_enter Tryz.func134, Tryz.ntmps134
      go_wp2
      go_ret
      exact ⟨by rw [HE.out]; rfl, HB0.out⟩
    case neg =>
      have hop := lnSp_of (m := m) (x := ⟨true, xt, xp, xf, xr, xw⟩) hgv hp
      have ht2 : (xt != (-1 : Int)) = true := by rw [bne_iff_ne]; exact ht
      have ht3 : (xt == (-1 : Int)) = false := by rw [beq_eq_false_iff_ne]; exact ht
      go_enter Tryz.func134, Tryz.ntmps134
      go_wp2_with fail
      refine (sSpaceOf_any vo m.g xt _ (HM.out.o.now HB0.out)).mono ?_
      rintro e w1 ⟨rfl, hb1⟩
      have HX1 := Hd (HX0.out.below hb1)
      have HL1 := Hd (HL0.out.below hb1)
      have HB1 := Hd (bT HB0.out hb1)
      clear hb1 m0 m1 m4 m5 m6 m7 x1 x2
      have m0 := HX1.out.cell_ 0 (v := vb) rfl
      have m1 := HX1.out.cell_ 1 (v := .slice Af m.t.fs.length cf) rfl
      have m4 := HX1.out.cell_ 4 (v := .int .i64 m.g.count) rfl
      have m5 := HX1.out.cell_ 5 (v := .int .i64 m.g.next) rfl
      have m6 := HX1.out.cell_ 6 (v := .int .i64 m.g.round) rfl
      have m7 := HX1.out.cell_ 7 (v := vo) rfl
      have x1 := HL1.out.cell_ 1 (v := .int .i64 xt) rfl
      have x2 := HL1.out.cell_ 2 (v := .int .i64 xp) rfl
      cases hso : spO m.g xt with
      | false =>
        have HE : Hid (lnM m ⟨true, xt, xp, xf, xr, xw⟩ = false) := lnM_sp rfl (hop.2 hso)
        go_wp2
        go_ret
        exact ⟨by rw [HE.out]; rfl, HB1.out⟩
      | true =>
        have hsp := hop.1 hso
        have hln := lnM_at2 (m := m) (f := xf) (r := xr) (w := xw) ⟨fun h => absurd h (by omega), fun h => absurd h ht⟩ hsp
        have hkv := lnSp_kval (m := m) (x := ⟨true, xt, xp, xf, xr, xw⟩) hgv hp256 hsp
        generalize spV m.g xt = sp at *
        clear hop hsp
        go_wp2
        have HK := Hd (sKeyFor_any sp xp)
        have HFN := Hd (fun W (h : TaR W vb (.slice Af m.t.fs.length cf) m.t) => l3Find_any vb (.slice Af m.t.fs.length cf) m.t (keyI sp xp) xp W h htv hkv)
        have hidx := @fndI_lt m.t.fs (keyI sp xp) xp
        generalize keyI sp xp = ks at *
        generalize hN : fndI m.t.fs ks xp = N at *
        go_region_held_law (fun w' => w'.cell? ⟨w.heap.size, 0, none⟩ = some vb ∧ w'.cell? ⟨w.heap.size, 1, none⟩ = some (.slice Af m.t.fs.length cf) ∧ w'.cell? ⟨w.heap.size + 1, 2, none⟩ = some (.int .i64 xp)) (go_keep) (first
          | (go_at_call 52
             refine (HK.out _).mono ?_
             rintro _ w5 ⟨rfl, hb5⟩
             have HB5 := Hd (bT (bD HB1.out) hb5)
             have HX5 := Hd (HX1.out.drew.below hb5)
             have HL5 := Hd (HL1.out.drew.below hb5)
             have d0 := HX5.out.cell_ 0 (v := vb) rfl
             have d1 := HX5.out.cell_ 1 (v := .slice Af m.t.fs.length cf) rfl
             have d2 := HL5.out.cell_ 2 (v := .int .i64 xp) rfl
             clear hb5)
          | (go_at_call 51
             refine (HFN.out _ (HM.out.t.now HB5.out)).mono ?_
             rintro _ w6 ⟨stp, rfl, hb6⟩
             have HB6 := Hd (bT HB5.out hb6)
             have HX6 := Hd (HX5.out.below hb6)
             have HL6 := Hd (HL5.out.below hb6)
             have e0 := HX6.out.cell_ 0 (v := vb) rfl
             have e1 := HX6.out.cell_ 1 (v := .slice Af m.t.fs.length cf) rfl
             have e2 := HL6.out.cell_ 2 (v := .int .i64 xp) rfl
             clear hb6 d0 d1 d2))
        all_goals
          clear m0 m1 m4 m5 m6 m7 x1 x2 e0 e1 e2
          have l1 := xcell (HL6.out.cell_ 1 (v := .int .i64 (xt)) rfl) HL6.out.lt
          have l3 := xcell (HL6.out.cell_ 3 (v := .int .i64 xf) rfl) HL6.out.lt
          have l4 := xcell (HL6.out.cell_ 4 (v := .int .i64 xr) rfl) HL6.out.lt
          have l5 := xcell (HL6.out.cell_ 5 (v := .bool xw) rfl) HL6.out.lt
          have l6 := xcell (HX6.out.cell_ 1 (v := .slice Af m.t.fs.length cf) rfl) HX6.out.lt
          by_cases hn : 0 ≤ N
          case neg =>
            have HE : Hid (lnM m ⟨true, xt, xp, xf, xr, xw⟩ = false) := by show _ = _; rw [hln, decide_eq_false hn]; rfl
            clear hidx hln
            go_wp2
            have hn2 : ¬ 0 ≤ N := by omega
            refine wp_region_ext (by kernel_rfl) (by kernel_rfl) ?_
            repeat (go_big_quiet_step (fail))
            refine wpQuiet_nil ?_
            intro _ hw'
            obtain ⟨⟨wq, hq⟩, hw''⟩ := hw'
            subst hw''
            try dsimp only
            go_wp2
            go_ret
            exact ⟨by rw [HE.out]; rfl, bT HB6.out hq⟩
          case pos =>
            obtain ⟨i, f, rfl, ef, _, _⟩ := hidx hn
            obtain ⟨b', o', eA, hbb', f0, f1, f2, f3, f4⟩ := (HFS.out.below HB6.out).fr ef
            subst eA
            have hfr := xcell f3 (by have := HB6.out.size; show b' < _; omega)
            rw [decide_eq_true hn, Int.toNat_natCast, List.getD_eq_getElem?_getD, ef, Option.getD_some, Bool.true_and] at hln
            have hil := (List.getElem?_eq_some_iff.1 ef).1
            clear f0 f1 f2 f3 f4 ef hidx
            by_cases hf : (i : Int) = xf
            case neg =>
              have HE : Hid (lnM m ⟨true, xt, xp, xf, xr, xw⟩ = false) := by show _ = _; rw [hln, decide_eq_false hf]; rfl
              clear hln
              go_wp2
              have hf2 : ((i : Int) == xf) = false := by rw [beq_eq_false_iff_ne]; exact hf
              have hn2 : 0 ≤ (i : Int) := by omega
              refine wp_region_ext (by kernel_rfl) (by kernel_rfl) ?_
              repeat (go_big_quiet_step (fail))
              refine wpQuiet_nil ?_
              intro _ hw'
              obtain ⟨⟨wq, hq⟩, hw''⟩ := hw'
              subst hw''
              try dsimp only
              go_wp2
              go_ret
              exact ⟨by rw [HE.out]; rfl, bT HB6.out hq⟩
            case pos =>
            subst hf
            by_cases hr : f.r = xr
            case neg =>
              have HE : Hid (lnM m ⟨true, xt, xp, i, xr, xw⟩ = false) := by show _ = _; rw [hln, decide_eq_false hr]; simp
              clear hln
              go_wp2
              have hr2 : (f.r == xr) = false := by rw [beq_eq_false_iff_ne]; exact hr
              have hn2 : 0 ≤ (i : Int) := by omega
              refine wp_region_ext (by kernel_rfl) (by kernel_rfl) ?_
              repeat (go_big_quiet_step (fail))
              refine wpQuiet_nil ?_
              intro _ hw'
              obtain ⟨⟨wq, hq⟩, hw''⟩ := hw'
              subst hw''
              try dsimp only
              go_wp2
              go_ret
              exact ⟨by rw [HE.out]; rfl, bT HB6.out hq⟩
            case pos =>
              subst hr
              rw [decide_eq_true rfl, decide_eq_true rfl, Bool.true_and, Bool.true_and] at hln
              cases xw with
              | false =>
                have HE : Hid (lnM m ⟨true, xt, xp, i, f.r, false⟩ = true) := by show _ = _; rw [hln]; rfl
                clear hln
                go_wp2
                have hf2 : ((i : Int) == (i : Int)) = true := beq_self_eq_true _
                have hr2 : (f.r == f.r) = true := beq_self_eq_true _
                have hn2 : 0 ≤ (i : Int) := by omega
                refine wp_region_ext (by kernel_rfl) (by kernel_rfl) ?_
                repeat (go_big_quiet_step (fail))
                refine wpQuiet_nil ?_
                intro _ hw'
                obtain ⟨⟨wq, hq⟩, hw''⟩ := hw'
                subst hw''
                try dsimp only
                go_wp2
                go_ret
                exact ⟨by rw [HE.out]; rfl, bT HB6.out hq⟩
              | true =>
                have HE : Hid (lnM m ⟨true, xt, xp, i, f.r, true⟩ = false) := by show _ = _; rw [hln, decide_eq_false (show ¬ 128 ≤ xp by omega)]; rfl
                clear hln
                go_wp2
                have hf2 : ((i : Int) == (i : Int)) = true := beq_self_eq_true _
                have hr2 : (f.r == f.r) = true := beq_self_eq_true _
                have hn2 : 0 ≤ (i : Int) := by omega
                have ht4 : ((xt : Int) == (-1 : Int)) = false := by rw [beq_eq_false_iff_ne]; exact ht
                refine wp_region_ext (by kernel_rfl) (by kernel_rfl) ?_
                repeat (go_big_quiet_step (fail))
                refine wpQuiet_nil ?_
                intro _ hw'
                obtain ⟨⟨wq, hq⟩, hw''⟩ := hw'
                subst hw''
                try dsimp only
                go_wp2
                go_ret
                exact ⟨by rw [HE.out]; rfl, bT HB6.out hq⟩
set_option maxHeartbeats 4000000 in
theorem sMachineValid_any (vb vf vl vo : Value) (m : Ma) (w : World) (hM : MaR w vb vf vl vo m) :
  Calls Tryz.prog 73 #[.agg #[vb, vf, vl, .int .i64 m.c.hand, .int .i64 m.g.count, .int .i64 m.g.next, .int .i64 m.g.round, vo, .int .i64 m.sp]] w fun r w' => r = .returned (.bool (mav m)) ∧ Below w.heap.size w w' := by
 have HM := Hd hM
 obtain ⟨W0, hW, hbx, hbz, _⟩ := box1 w #[vb, vf, vl, .int .i64 m.c.hand, .int .i64 m.g.count, .int .i64 m.g.next, .int .i64 m.g.round, vo, .int .i64 m.sp] 34
 have HX0 := Hd hbx
 have HB0 := Hd hbz
 clear hbx hbz
 clear hM
 obtain ⟨m00, m10, m20, m30, m40, m50, m60, m70, m80⟩ := cells9 HX0.out
 go_enter Tryz.func73, Tryz.ntmps73
 go_wp2_with fail
 refine (sTableValid_any vb vf m.t _ (HM.out.t.now HB0.out)).mono ?_
 rintro e w1 ⟨rfl, hb1⟩
 have HX1 := Hd (HX0.out.below hb1)
 have HB1 := Hd (bT HB0.out hb1)
 clear hb1
 clear m00 m10 m20 m30 m40 m50 m60 m70 m80
 obtain ⟨m01, m11, m21, m31, m41, m51, m61, m71, m81⟩ := cells9 HX1.out
 cases h1 : tv m.t with
 | false =>
  have HE : Hid (mav m = false) := mav_no fun h => by have := (mav_parts h).1; rw [h1] at this; cases this
  go_wp2
  go_ret
  exact ⟨by rw [HE.out]; rfl, HB1.out⟩
 | true =>
 go_wp2_with fail
 refine (sCacheValid_any vl m.c _ (HM.out.l.now HB1.out)).mono ?_
 rintro e w2 ⟨rfl, hb2⟩
 have HX2 := Hd (HX1.out.below hb2)
 have HB2 := Hd (bT HB1.out hb2)
 clear hb2
 clear m01 m11 m21 m31 m41 m51 m61 m71 m81
 obtain ⟨m02, m12, m22, m32, m42, m52, m62, m72, m82⟩ := cells9 HX2.out
 cases h2 : cav m.c with
 | false =>
  have HE : Hid (mav m = false) := mav_no fun h => by have := (mav_parts h).2.1; rw [h2] at this; cases this
  go_wp2
  go_ret
  exact ⟨by rw [HE.out]; rfl, HB2.out⟩
 | true =>
 go_wp2_with fail
 refine (sTagsValid_any vo m.g _ (HM.out.o.now HB2.out)).mono ?_
 rintro e w3 ⟨rfl, hb3⟩
 have HX3 := Hd (HX2.out.below hb3)
 have HB3 := Hd (bT HB2.out hb3)
 clear hb3
 clear m02 m12 m22 m32 m42 m52 m62 m72 m82
 obtain ⟨m03, m13, m23, m33, m43, m53, m63, m73, m83⟩ := cells9 HX3.out
 cases h3 : tgv m.g with
 | false =>
  have HE : Hid (mav m = false) := mav_no fun h => by have := (mav_parts h).2.2.1; rw [h3] at this; cases this
  go_wp2
  go_ret
  exact ⟨by rw [HE.out]; rfl, HB3.out⟩
 | true =>
 go_wp2_with fail
 refine (l5Find_any vo m.g m.sp _ (HM.out.o.now HB3.out)).mono ?_
 rintro e w4 ⟨rfl, hb4⟩
 have HX4 := Hd (HX3.out.below hb4)
 have HB4 := Hd (bT HB3.out hb4)
 clear hb4
 clear m03 m13 m23 m33 m43 m53 m63 m73 m83
 obtain ⟨m04, m14, m24, m34, m44, m54, m64, m74, m84⟩ := cells9 HX4.out
 by_cases h4 : ownI m.g.os m.sp < 0
 ·have HE : Hid (mav m = false) := mav_no fun h => by have := (mav_parts h).2.2.2.1; omega
  go_wp2
  go_ret
  exact ⟨by rw [HE.out]; rfl, HB4.out⟩
 obtain ⟨Af, cf, rfl, hfc, hfm, hF⟩ := HM.out.t.f
 have hfl : m.t.fs.length ≤ 16 := (tv_parts h1).1.2.1
 have HFS := Hd hF
 clear hF
 go_wp2
 clear m04 m14 m24 m34 m44 m54 m64 m74 m84
 go_loopw [3] (fun u wr => ∃ k : Nat, k ≤ m.t.fs.length ∧ u = .int .i64 k ∧ Hid (All_ frM m.t.fs k) ∧ Below w4.heap.size w4 wr) (fun u _ => m.t.fs.length - (intOf u).toNat)
 case atStart => exact ⟨0, by omega, rfl, all_zero, bR⟩
 case round =>
  obtain ⟨k, hk, rfl, hall, hb5⟩ := hrel
  have hm1 := (HX4.out.below hb5).cell_ 1 (v := .slice Af m.t.fs.length cf) rfl
  have hwl := (HX4.out.below hb5).lt
  by_cases hlt : k < m.t.fs.length
  ·obtain ⟨f, ef⟩ : ∃ f, m.t.fs[k]? = some f := ⟨_, List.getElem?_eq_getElem hlt⟩
   obtain ⟨b, o, rfl, hbb, d0, d1, d2, d3, d4⟩ := (HFS.out.below (bT HB4.out hb5)).fr ef
   have EF := Hd ef
   clear ef
   cases hu : f.used with
   | false =>
    rw [hu] at d0
    have HA := Hd (all_step hall.out EF.out (by unfold frM; rw [hu]; rfl))
    go_wp2
    go_roundw
    case rel => exact ⟨k + 1, by omega, by go_num, HA, bA hb5⟩
    case measure => simp [intOf]; omega
   | true =>
   rw [hu] at d0
   by_cases hp : 128 ≤ f.p
   case neg =>
    have HA := Hd (all_step hall.out EF.out (by unfold frM; rw [decide_eq_false hp]; simp))
    go_wp2
    go_roundw
    case rel => exact ⟨k + 1, by omega, by go_num, HA, bA hb5⟩
    case measure => simp [intOf]; omega
   case pos =>
   by_cases hs : f.s = 0
   case pos =>
    have HA := Hd (all_step hall.out EF.out (by unfold frM; rw [decide_eq_true hs]; simp))
    go_wp2
    go_roundw
    case rel => exact ⟨k + 1, by omega, by go_num, HA, bA hb5⟩
    case measure => simp [intOf]; omega
   case neg =>
    have HE : Hid (mav m = false) := mav_fr EF.out (by unfold frM; rw [hu, decide_eq_true hp, decide_eq_false hs]; rfl)
    go_wp2
    go_ret
    exact ⟨by rw [HE.out]; rfl, bA (bT HB4.out hb5)⟩
  ·obtain rfl : k = m.t.fs.length := by omega
   have HFA := Hd (all_end hall.out)
   clear hall
   obtain ⟨Al, cl, rfl, hlc, hlm, hL⟩ := HM.out.l
   have hll : m.c.ls.length ≤ 8 := (cav_parts h2).2.1
   have HLS := Hd hL
   have HX5 := Hd (HX4.out.below hb5)
   have HB5 := Hd (bT HB4.out hb5)
   clear hL hb5
   go_wp2
   clear hm1 hwl
   obtain ⟨w5, rfl⟩ : ∃ w5, w5 = wr := ⟨_, rfl⟩
   go_loopw [5] (fun u wi => ∃ k : Nat, k ≤ m.c.ls.length ∧ u = .int .i64 k ∧ Hid (All_ (lnM m) m.c.ls k) ∧ Below w5.heap.size w5 wi) (fun u _ => m.c.ls.length - (intOf u).toNat)
   case atStart => exact ⟨0, by omega, rfl, all_zero, bR⟩
   case round =>
    obtain ⟨k, hk, rfl, hall, hb6⟩ := hrel
    have HX6 := Hd (HX5.out.below hb6)
    have hm2 := HX6.out.cell_ 2 (v := .slice Al m.c.ls.length cl) rfl
    by_cases hlt : k < m.c.ls.length
    ·obtain ⟨x, ex⟩ : ∃ x, m.c.ls[k]? = some x := ⟨_, List.getElem?_eq_getElem hlt⟩
     obtain ⟨x', ex', hok, _⟩ := lok_at (cav_parts h2).2.2.2.1 hlt
     rw [ex] at ex'
     injection ex' with ex'
     subst ex'
     obtain ⟨xv, xt, xp, xf, xr, xw⟩ := x
     obtain ⟨b, o, rfl, hbb, d0, d1, d2, d3, d4, d5⟩ := (HLS.out.below (bT HB5.out hb6)).ln ex
     have EX := Hd ex
     have hbl : b < wr.heap.size := by have := (bT HB5.out hb6).size; omega
     have y0 := xcell d0 (by show b < _; exact hbl)
     have y1 := xcell d1 (by show b < _; exact hbl)
     have y2 := xcell d2 (by show b < _; exact hbl)
     have y3 := xcell d3 (by show b < _; exact hbl)
     have y4 := xcell d4 (by show b < _; exact hbl)
     have y5 := xcell d5 (by show b < _; exact hbl)
     have n0 := xcell (HX6.out.cell_ 0 (v := vb) rfl) HX6.out.lt
     have n1 := xcell (HX6.out.cell_ 1 (v := .slice Af m.t.fs.length cf) rfl) HX6.out.lt
     have n2 := xcell (HX6.out.cell_ 2 (v := .slice (some ⟨b, o, none⟩) m.c.ls.length cl) rfl) HX6.out.lt
     have n3 := xcell (HX6.out.cell_ 3 (v := .int .i64 m.c.hand) rfl) HX6.out.lt
     have n4 := xcell (HX6.out.cell_ 4 (v := .int .i64 m.g.count) rfl) HX6.out.lt
     have n5 := xcell (HX6.out.cell_ 5 (v := .int .i64 m.g.next) rfl) HX6.out.lt
     have n6 := xcell (HX6.out.cell_ 6 (v := .int .i64 m.g.round) rfl) HX6.out.lt
     have n7 := xcell (HX6.out.cell_ 7 (v := vo) rfl) HX6.out.lt
     have n8 := xcell (HX6.out.cell_ 8 (v := .int .i64 m.sp) rfl) HX6.out.lt
     have HM6 := Hd (HM.out.now (bT HB5.out hb6))
     clear ex d0 d1 d2 d3 d4 d5
     cases xv with
     | false =>
      have HA := Hd (all_step hall.out EX.out (lnM_inv rfl))
      go_wp2
      refine wp_region_ext (by kernel_rfl) (by kernel_rfl) ?_
      repeat (go_big_quiet_step (fail))
      refine wpQuiet_nil ?_
      intro _ hw'
      obtain ⟨⟨wq, hq⟩, hw''⟩ := hw'
      subst hw''
      try dsimp only
      go_wp2
      go_roundw
      case rel => exact ⟨k + 1, by omega, by go_num, HA, bT hb6 hq⟩
      case measure => simp [intOf]; omega
     | true =>
      have hp256 : inR xp 256 = true := by
       unfold lnok at hok
       simp only [if_true, Bool.and_eq_true] at hok
       exact hok.1.1.2
      have HLN := Hd (fun W (h : MaR W vb (.slice Af m.t.fs.length cf) (.slice (some ⟨b, o, none⟩) m.c.ls.length cl) vo m) => l6Line_any vb (.slice Af m.t.fs.length cf) (.slice (some ⟨b, o, none⟩) m.c.ls.length cl) vo m xt xp xf xr xw W h h1 h3 hp256)
      clear hok hp256
      cases hln : lnM m ⟨true, xt, xp, xf, xr, xw⟩ with
      | true =>
       have HA := Hd (all_step hall.out EX.out hln)
       rw [hln] at HLN
       clear hln
       go_wp2
       refine wp_region_ext (by kernel_rfl) (by kernel_rfl) ?_
       repeat (go_big_quiet_step ((go_at_call 134; exact ext_call (HLN.out _ (HM6.out.now (Ext.ok _))))))
       refine wpQuiet_nil ?_
       intro _ hw'
       obtain ⟨⟨wq, hq⟩, hw''⟩ := hw'
       subst hw''
       try dsimp only
       go_wp2
       go_roundw
       case rel => exact ⟨k + 1, by omega, by go_num, HA, bT hb6 hq⟩
       case measure => simp [intOf]; omega
      | false =>
       have HE : Hid (mav m = false) := mav_ln EX.out hln
       rw [hln] at HLN
       clear hln
       go_wp2
       refine wp_region_ext (by kernel_rfl) (by kernel_rfl) ?_
       repeat (go_big_quiet_step ((go_at_call 134; exact ext_call (HLN.out _ (HM6.out.now (Ext.ok _))))))
       refine wpQuiet_nil ?_
       intro _ hw'
       obtain ⟨⟨wq, hq⟩, hw''⟩ := hw'
       subst hw''
       try dsimp only
       go_wp2
       go_ret
       exact ⟨by rw [HE.out]; rfl, bT HB5.out (bT hb6 hq)⟩
    ·obtain rfl : k = m.c.ls.length := by omega
     have HLA := Hd (all_end hall.out)
     have HE : Hid (mav m = true) := mav_end h1 h2 h3 h4 HFA.out HLA.out
     go_wp2
     go_ret
     exact ⟨by rw [HE.out]; rfl, bT HB5.out hb6⟩
end Go.Proofs.YtfbnokjdkhcgoaaGreatDoor
