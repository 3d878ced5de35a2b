/- A part of the proofs of this seat: Fp. -/
import Derived.Test.YtibpnlojlfcpmaaGreatDoorAOwn
set_option linter.unusedVariables false
set_option linter.unusedSimpArgs false
set_option maxRecDepth 1000000
namespace Go.Proofs.YtibpnlojlfcpmaaGreatDoor
open Go.RowKit
set_option maxHeartbeats 2000000 in
theorem chain_any (vb vf : Value) (t : Tab) (b : Nat) (ch : List Nat) (w : World) (hT : TaR w vb vf t) (hb : b < t.bs.length) (hl : t.fs.length ≤ 100000) (hch : bch t b = some ch) :
  Calls Tryz.prog 80 #[.agg #[vb, vf], .int .i64 b] w (Post2 fun v w' => SlR intE w' v (ints ch) ∧ Below w.heap.size w w') := by
 obtain ⟨Ab, cb, rfl, hbc, hbm, hB⟩ := hT.b
 obtain ⟨Af, cf, rfl, hfc, hfm, hF⟩ := hT.f
 obtain ⟨i0, ei0⟩ : ∃ i0, t.bs[b]? = some i0 := ⟨_, List.getElem?_eq_getElem hb⟩
 have H0 := Hd (chst_zero ei0)
 obtain ⟨b1, o1, rfl, hb1, c1⟩ := hB.i1 ei0
 have HF := Hd hF
 have HCH := Hd hch
 clear hF hB hT ei0 hch
 obtain ⟨W0, hW, hbx, hb0, hs0⟩ := box1 w #[.slice (some ⟨b1, o1, none⟩) t.bs.length cb, .slice Af t.fs.length cf] 40
 have HBX := Hd hbx
 have HB0 := Hd hb0
 have c1' := (hb0.cell (p := ⟨b1, o1 + b, none⟩) (by show b1 < _; omega)).trans c1
 have q0 := hbx.cell_ 0 (v := .slice (some ⟨b1, o1, none⟩) t.bs.length cb) rfl
 have HO : Hid (W0.ownsRow (w.heap.size + 1) 3 1 (.slice none 0 0) 0 (intE.cells (ints []))) := World.ownsRow_nil _ _ _ _
 clear hbx hb0 c1
 go_enter Tryz.func80, Tryz.ntmps80
 go_wp2
 clear c1' q0
 go_loopw [5, 6] (fun v u wr => ∃ (pre : List Nat) (i : Int), u = .int .i64 i ∧ pre.length ≤ t.fs.length ∧ Hid (ChSt t b pre i) ∧ wr.ownsRow (w.heap.size + 1) 3 1 v pre.length (intE.cells (ints pre)) ∧ Own wr w.heap.size 40 #[.slice (some ⟨b1, o1, none⟩) t.bs.length cb, .slice Af t.fs.length cf] ∧ Below w.heap.size w wr) (fun v _ _ => t.fs.length - lenV v)
 case atStart => exact ⟨[], i0, rfl, by simp, H0, HO.out, HBX.out, HB0.out⟩
 case round =>
  obtain ⟨pre, i, rfl, hpl, hst, hown, hbox, hb'⟩ := hrel
  obtain ⟨Ao, co, rfl, hoc, hom, hro⟩ := rs_own (E := intE) (l := ints pre) (ints_length pre).symm hown
  rw [ints_length] at *
  have q0 := hbox.cell_ 0 (v := .slice (some ⟨b1, o1, none⟩) t.bs.length cb) rfl
  have q1 := hbox.cell_ 1 (v := .slice Af t.fs.length cf) rfl
  have hbl := hbox.lt
  have HBOX := Hd hbox
  have HOWN := Hd hown
  clear hbox hown
  by_cases h1 : i = -1
  ·subst h1
   have hpe : pre = ch := by have := chst_end hst.out; rw [HCH.out] at this; injection this with this; exact this.symm
   subst hpe
   have HR : Hid (SlR intE wr (.slice Ao pre.length pre.length) (ints pre)) := ⟨Ao, pre.length, by rw [ints_length], by rw [ints_length]; omega, by omega, hro⟩
   have HCL := Hd (clipint_any Ao pre.length co wr hoc)
   clear hro
   go_wp2_with fail
   refine HCL.out.mono ?_
   rintro e w2 ⟨rfl, rfl⟩
   go_wp2
   go_ret
   exact ⟨_, rfl, HR.out, hb'⟩
  ·have g1 : (i == -1) = false := by rw [beq_eq_false_iff_ne]; exact h1
   have hin : 0 ≤ i ∧ i < t.fs.length := by
    by_cases h2 : 0 ≤ i ∧ i < t.fs.length
    ·exact h2
    ·have := chst_out hst.out h1 h2; rw [HCH.out] at this; cases this
   obtain ⟨h3, h4⟩ := hin
   obtain ⟨k, rfl⟩ := Int.eq_ofNat_of_zero_le h3
   have h5 : pre.length < t.fs.length := by
    by_cases h5 : pre.length < t.fs.length
    ·exact h5
    ·have := chst_full hst.out h1 (by omega); rw [HCH.out] at this; cases this
   obtain ⟨f, ef⟩ : ∃ f, t.fs[k]? = some f := ⟨_, List.getElem?_eq_getElem (by omega)⟩
   have hu : f.used = true := by
    cases hu : f.used with
    | true => rfl
    | false => have := chst_free hst.out ef hu; rw [HCH.out] at this; cases this
   obtain ⟨b2, o2, rfl, hb2, d0, d1, d2, d3, d4⟩ := (HF.out.below hb').fr ef
   have HST := Hd (chst_step hst.out ef hu h5)
   obtain ⟨v4, w4, hrun, hown4, hg4, _⟩ := run_append_i (w.heap.size + 1) wr _ pre.length (ints pre) (k : Int) HOWN.out (ints_length pre) (by omega) (by omega)
   have hb4 := bG (bA hb' (o := .cells #[.int .i64 (k : Int)] 3)) hg4 (fun x hx => by have := own_block HOWN.out x hx; omega)
   have hne : ∀ k, k ≤ w.heap.size → some k ≠ Value.ownBlock (.slice Ao pre.length co) := fun k hk e => by have := own_block HOWN.out k e.symm; omega
   have hd4 : w4.cell? ⟨b2, o2 + k * 5 + 4, none⟩ = some (.int .i64 f.n) := hg4.cell (a := ⟨b2, o2 + k * 5 + 4, none⟩) (((bA (bR (w := wr))).cell (p := ⟨b2, o2 + k * 5 + 4, none⟩) (by have := hb'.size; show b2 < _; omega)).trans d4) (hne b2 (by have := hb'.size; omega))
   have hbox4 := own_other (HBOX.out.alloc (o := .cells #[.int .i64 (k : Int)] 3)) hg4 (hne _ (Nat.le_refl _))
   rw [show ints pre ++ [(k : Int)] = ints (pre ++ [k]) by rw [ints_append]; rfl] at hown4
   obtain ⟨A4, c4, rfl, _, _, _⟩ := own_rd hown4
   have y1 := hbox4.cell_ 1 (v := .slice (some ⟨b2, o2, none⟩) t.fs.length cf) rfl
   have HB4 := Hd hbox4
   have HO4 := Hd hown4
   have hk0 : (0 : Int) ≤ (k : Int) := by omega
   clear hown4 hbox4 hg4 hne ef hu d0 d1 d2 d3 d4
   go_wp2_with (at_builtin; refine wpList_append_run _ rfl (.tmp 20) (.tmp 22) 22 rfl _ _ _ _ rfl rfl hrun ?_)
   go_roundw
   case rel => exact ⟨pre ++ [k], f.n, rfl, by simp; omega, HST, by simpa using HO4.out, HB4.out, hb4⟩
   case measure => simp [lenV]; omega
def fpI (t : Tab) (s p : Int) : Int := if fOK t s p = true then fndI t.fs s p else 0
set_option maxHeartbeats 2000000 in
theorem FindPage_any (vb vf : Value) (t : Tab) (s p : Int) (w : World) (hT : TaR w vb vf t) (hfree : Free w) :
    Calls Tryz.prog 25 #[.agg #[vb, vf], .agg #[.int .i64 s, .int .i64 p]] w (Post2 fun v w' => ∃ n : Int, v = .tuple #[.int .i64 (fpI t s p), .int .i64 n, .bool (fOK t s p)] ∧ Below w.heap.size w w') := by
  have HT := Hd hT
  have HF := Hd hfree
  obtain ⟨Ab, cb, rfl, hbc, hbm, hB⟩ := hT.b
  obtain ⟨Af, cf, rfl, hfc, hfm, hFs⟩ := hT.f
  clear hB hFs hfree
  obtain ⟨W0, hW, hbx, hky, hb0, hs0⟩ := box2 w #[.slice Ab t.bs.length cb, .slice Af t.fs.length cf] 40 #[.int .i64 s, .int .i64 p] 61
  have q0 := hbx.cell_ 0 (v := .slice Ab t.bs.length cb) rfl
  have q1 := hbx.cell_ 1 (v := .slice Af t.fs.length cf) rfl
  have HX0 := Hd hbx
  have HK0 := Hd hky
  have HB0 := Hd hb0
  clear hbx hky hb0
  go_enter Tryz.func25, Tryz.ntmps25
  go_wp2_with fail
  refine (TableValid_any _ _ t W0 (HT.out.now HB0.out) (HF.out.now HB0.out)).mono ?_
  rintro e w1 ⟨rfl, hb1⟩
  clear q0 q1
  have HX1 := Hd (HX0.out.below hb1)
  have HK1 := Hd (HK0.out.below hb1)
  have HB1 := Hd (bT HB0.out hb1)
  clear hb1 HX0 HK0 HB0
  cases htv : tv t with
  | false =>
    have HE : Hid (fOK t s p = false) := by show _ = _; unfold fOK; rw [htv]; rfl
    have HI : Hid (fpI t s p = 0) := by show _ = _; unfold fpI; rw [if_neg (by rw [HE.out]; decide)]
    go_wp2
    refine bodyPost_ret (v := .tuple #[.int .i64 (fpI t s p), .int .i64 0, .bool (fOK t s p)]) (by simp [results, Tryz.results25, go_sem, HE.out, HI.out]) rfl ⟨_, rfl, _, rfl, HB1.out⟩
  | true =>
    have k0 := HK1.out.cell_ 0 (v := .int .i64 s) rfl
    have k1 := HK1.out.cell_ 1 (v := .int .i64 p) rfl
    go_wp2_with fail
    refine (keyValid_any s p w1).mono ?_
    rintro e w2 ⟨rfl, hb2⟩
    clear k0 k1
    have HX2 := Hd (HX1.out.below hb2)
    have HK2 := Hd (HK1.out.below hb2)
    have HB2 := Hd (bT HB1.out hb2)
    clear hb2 HX1 HK1 HB1
    cases hk : kval (s, p) with
    | false =>
      have HE : Hid (fOK t s p = false) := by show _ = _; unfold fOK; rw [htv, hk]; rfl
      have HI : Hid (fpI t s p = 0) := by show _ = _; unfold fpI; rw [if_neg (by rw [HE.out]; decide)]
      go_wp2
      refine bodyPost_ret (v := .tuple #[.int .i64 (fpI t s p), .int .i64 0, .bool (fOK t s p)]) (by simp [results, Tryz.results25, go_sem, HE.out, HI.out]) rfl ⟨_, rfl, _, rfl, HB2.out⟩
    | true =>
      obtain ⟨⟨_, hfl, hb1', hbl⟩, _⟩ := tv_parts htv
      obtain ⟨ch, hch, _⟩ := fnd_chain htv hk
      obtain ⟨hbk, hbe⟩ := bkt_in hk hb1'
      have hcl := (show ch.length ≤ t.fs.length from by
        obtain ⟨x, _, ec⟩ := bch_some hch
        exact chn_len ec)
      have HH := Hd (fun W => post2_of (hash_any s p t.bs.length W hk ⟨by omega, by omega⟩))
      have HC := Hd (fun W (h : TaR W (.slice Ab t.bs.length cb) (.slice Af t.fs.length cf) t) => chain_any (.slice Ab t.bs.length cb) (.slice Af t.fs.length cf) t (bkt t s p) ch W h hbk (by omega) hch)
      have q0 := HX2.out.cell_ 0 (v := .slice Ab t.bs.length cb) rfl
      have q1 := HX2.out.cell_ 1 (v := .slice Af t.fs.length cf) rfl
      have k0 := HK2.out.cell_ 0 (v := .int .i64 s) rfl
      have k1 := HK2.out.cell_ 1 (v := .int .i64 p) rfl
      go_wp2
      go_region_held_law (fun w' => w'.cell? ⟨w.heap.size, 0, none⟩ = some (.slice Ab t.bs.length cb) ∧ w'.cell? ⟨w.heap.size, 1, none⟩ = some (.slice Af t.fs.length cf) ∧ w'.cell? ⟨w.heap.size + 1, 0, none⟩ = some (.int .i64 s) ∧ w'.cell? ⟨w.heap.size + 1, 1, none⟩ = some (.int .i64 p)) (go_keep) (first
        | (go_at_call 81
           refine (HH.out _).mono ?_
           rintro _ w3 ⟨_, rfl, rfl, hb3⟩
           rw [hbe]
           have HB3 := Hd (bT (bD HB2.out) hb3)
           have hx3 := HX2.out.drew.below hb3
           have hk3 := HK2.out.drew.below hb3
           have d0 := hx3.cell_ 0 (v := .slice Ab t.bs.length cb) rfl
           have d1 := hx3.cell_ 1 (v := .slice Af t.fs.length cf) rfl
           have d2 := hk3.cell_ 0 (v := .int .i64 s) rfl
           have d3 := hk3.cell_ 1 (v := .int .i64 p) rfl
           have HX3 := Hd hx3
           have HK3 := Hd hk3
           clear hx3 hk3 hb3)
        | (go_at_call 80
           refine (HC.out _ (HT.out.now HB3.out)).mono ?_
           rintro _ w4 ⟨_, rfl, hsv, hb4⟩
           have HB4 := Hd (bT HB3.out hb4)
           have hx4 := HX3.out.below hb4
           have hk4 := HK3.out.below hb4
           have e0 := hx4.cell_ 0 (v := .slice Ab t.bs.length cb) rfl
           have e1 := hx4.cell_ 1 (v := .slice Af t.fs.length cf) rfl
           have e2 := hk4.cell_ 0 (v := .int .i64 s) rfl
           have e3 := hk4.cell_ 1 (v := .int .i64 p) rfl
           have HX4 := Hd hx4
           have HK4 := Hd hk4
           obtain ⟨Al, cl, rfl, hlc, hlm, hL⟩ := hsv
           have HL := Hd hL
           rw [ints_length] at *
           clear hx4 hk4 hb4 hL d0 d1 d2 d3))
      all_goals
        go_wp2
        clear e0 e1 e2 e3
        go_loopw [27] (fun u wi => ∃ r : Nat, r ≤ ch.length ∧ u = .int .i64 r ∧ Hid (∀ (m j : Nat) (f : Fr), m < r → ch[m]? = some j → t.fs[j]? = some f → ¬ (f.s, f.p) = (s, p)) ∧ Below w4.heap.size w4 wi) (fun u _ => ch.length - (intOf u).toNat)
        case atStart => exact ⟨0, by omega, rfl, (fun m j f h => absurd h (by omega)), bR⟩
        case round =>
          obtain ⟨r, hr, rfl, hacc, hbi⟩ := hrel
          by_cases hlr : r < ch.length
          · obtain ⟨j, ej⟩ : ∃ j, ch[r]? = some j := ⟨_, List.getElem?_eq_getElem hlr⟩
            obtain ⟨f, ef, huf⟩ := bch_mem hch j (List.mem_of_getElem? ej)
            obtain ⟨hjl, _⟩ := List.getElem?_eq_some_iff.1 ef
            obtain ⟨b5, o5, hAl, hb5, y0⟩ := (HL.out.now (Nat.le_refl _) hbi).i1 (ints_get ej)
            obtain ⟨b4, o4, hAf, hb4, x0, x1, x2, x3, x4⟩ := ((HT.out.now (bT HB4.out hbi)).fsl).fr ef
            subst hAl hAf
            have z1 := xcell (w := wr) ((HX4.out.below hbi).cell_ 1 (v := .slice (some ⟨b4, o4, none⟩) t.fs.length cf) rfl) (HX4.out.below hbi).lt
            have z2 := xcell (w := wr) ((HK4.out.below hbi).cell_ 0 (v := .int .i64 s) rfl) (HK4.out.below hbi).lt
            have z3 := xcell (w := wr) ((HK4.out.below hbi).cell_ 1 (v := .int .i64 p) rfl) (HK4.out.below hbi).lt
            have z5 := xcell (w := wr) x1 (by show b4 < _; omega)
            have z6 := xcell (w := wr) x2 (by show b4 < _; omega)
            have hj2 : (j : Int) < (t.fs.length : Int) := by omega
            have he := fun W => eql_key f.s f.p s p W
            have hi1 : ((ints ch).length : Int) = (ch.length : Int) := by rw [ints_length]
            cases hq1 : keq f.s f.p s p with
            | true =>
              rw [hq1] at he
              have hfn := chain_some htv hk hch ej ef (keq_iff.1 hq1)
              have HE : Hid (fOK t s p = true) := by show _ = _; unfold fOK; rw [htv, hk, hfn]; simp
              have HI : Hid (fpI t s p = (j : Int)) := by show _ = _; unfold fpI; rw [if_pos HE.out, hfn]
              clear ej ef huf x0 x1 x2 x3 x4 hfn
              go_wp2
              refine wp_region_ext (by kernel_rfl) (by kernel_rfl) ?_
              repeat (go_big_quiet_step (fail))
              refine wpQuiet_nil ?_
              intro _ hw'
              obtain ⟨⟨wq, hq⟩, hw''⟩ := hw'
              subst hw''
              try dsimp only
              go_wp2
              refine bodyPost_ret (v := .tuple #[.int .i64 (fpI t s p), .int .i64 ((r : Int) + 1), .bool (fOK t s p)]) (by simp [results, Tryz.results25, go_sem, HE.out, HI.out]) rfl ⟨_, rfl, _, rfl, bT HB4.out (bT hbi hq)⟩
            | false =>
              rw [hq1] at he
              have HACC : Hid (∀ (m j : Nat) (f : Fr), m < r + 1 → ch[m]? = some j → t.fs[j]? = some f → ¬ (f.s, f.p) = (s, p)) := fun m j' f' hm e1 e2 => by
                rcases Nat.lt_or_ge m r with h | h
                · exact hacc.out m j' f' h e1 e2
                · obtain rfl : m = r := by omega
                  rw [ej] at e1
                  injection e1 with e1
                  subst e1
                  rw [ef] at e2
                  injection e2 with e2
                  subst e2
                  exact keq_no hq1
              clear ej ef huf x0 x1 x2 x3 x4
              go_wp2
              refine wp_region_ext (by kernel_rfl) (by kernel_rfl) ?_
              repeat (go_big_quiet_step (fail))
              refine wpQuiet_nil ?_
              intro _ hw'
              obtain ⟨⟨wq, hq⟩, hw''⟩ := hw'
              subst hw''
              try dsimp only
              go_wp2
              go_roundw
              case rel => exact ⟨r + 1, by omega, by go_num, HACC, bT hbi hq⟩
              case measure => simp [intOf]; omega
          · obtain rfl : r = ch.length := by omega
            have hfn : fndI t.fs s p = -1 := chain_none htv hk hch (fun m j f e1 e2 => hacc.out m j f (List.getElem?_eq_some_iff.1 e1).1 e1 e2)
            have HE : Hid (fOK t s p = false) := by show _ = _; unfold fOK; rw [hfn]; simp
            have HI : Hid (fpI t s p = 0) := by show _ = _; unfold fpI; rw [if_neg (by rw [HE.out]; decide)]
            clear hfn
            go_wp2
            refine bodyPost_ret (v := .tuple #[.int .i64 (fpI t s p), .int .i64 (ch.length : Int), .bool (fOK t s p)]) (by simp [results, Tryz.results25, go_sem, HE.out, HI.out]) rfl ⟨_, rfl, _, rfl, bT HB4.out hbi⟩
end Go.Proofs.YtibpnlojlfcpmaaGreatDoor
