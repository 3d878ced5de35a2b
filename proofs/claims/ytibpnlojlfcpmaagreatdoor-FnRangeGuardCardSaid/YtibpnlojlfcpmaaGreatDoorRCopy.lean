/- A part of the proofs of this seat: Copy, Fp, LRg, LRgD, LRgE. -/
import Derived.Laws.Cover3
import Derived.Deep.CutRange
import Derived.Deep.RegionHeldLaw
import Derived.ChangeSame
import Derived.Test.YtibpnlojlfcpmaaGreatDoorRKr
set_option linter.unusedVariables false
set_option linter.unusedSimpArgs false
set_option maxRecDepth 1000000
namespace Go.Proofs.YtibpnlojlfcpmaaGreatDoor
open Go.RowKit
theorem clipint_any (A : Option Addr) (n c : Nat) (w : World) (hn : n ≤ c) : Calls Tryz.prog 123 #[.slice A n c] w fun r w' => r = .returned (.slice A n n) ∧ w = w' := by
 obtain ⟨i0, hi0, _⟩ := info_parts int_info2
 have hs := fun W => slice_max (P := Tryz.prog) W 22 3 i0 A n c Tryz.underlying22 hi0 hn
 go_enter Tryz.func123, Tryz.ntmps123
 go_wp2
 go_ret
 exact ⟨rfl, rfl⟩
end Go.Proofs.YtibpnlojlfcpmaaGreatDoor
namespace Go.Proofs.YtibpnlojlfcpmaaGreatDoor.lRangeGuard
open Go.ChangeShapes Go.WideShapes Go.ChangeAt Go.RowKit Go.Joins
set_option maxRecDepth 100000 in
theorem closed : joinedFacts Tryz.prog 5 Tryz.f5 Rows.fnRangeGuardSpec Rows.fnRangeGuardRow = true := by
 unfold joinedFacts
 rw [may_enter, lifts_final, make_cut]
 refine Eq.trans ?_ (Eq.refl _)
 kernel_rfl
end Go.Proofs.YtibpnlojlfcpmaaGreatDoor.lRangeGuard
namespace Go.Proofs.YtibpnlojlfcpmaaGreatDoor
open Go.RowKit
set_option maxHeartbeats 2000000 in
theorem chain_any (vb vf : Value) (t : Tab) (b : Nat) (ch : List Nat) (w : World) (hT : TaR w vb vf t) (hb : b < t.bs.length) (hl : t.fs.length ≤ 100000) (hch : bch t b = some ch) :
  Calls Tryz.prog 80 #[.agg #[vb, vf], .int .i64 b] w (Post2 fun v w' => SlR intE w' v (ints ch) ∧ Below w.heap.size w w') := by
 obtain ⟨Ab, cb, rfl, hbc, hbm, hB⟩ := hT.b
 obtain ⟨Af, cf, rfl, hfc, hfm, hF⟩ := hT.f
 obtain ⟨i0, ei0⟩ : ∃ i0, t.bs[b]? = some i0 := ⟨_, List.getElem?_eq_getElem hb⟩
 have H0 := Hd (chst_zero ei0)
 obtain ⟨b1, o1, rfl, hb1, c1⟩ := hB.i1 ei0
 have HF := Hd hF
 have HCH := Hd hch
 clear hF hB hT ei0 hch
 obtain ⟨W0, hW, hbx, hb0, hs0⟩ := box1 w #[.slice (some ⟨b1, o1, none⟩) t.bs.length cb, .slice Af t.fs.length cf] 40
 have HBX := Hd hbx
 have HB0 := Hd hb0
 have c1' := (hb0.cell (p := ⟨b1, o1 + b, none⟩) (by show b1 < _; omega)).trans c1
 have q0 := hbx.cell_ 0 (v := .slice (some ⟨b1, o1, none⟩) t.bs.length cb) rfl
 have HO : Hid (W0.ownsRow (w.heap.size + 1) 3 1 (.slice none 0 0) 0 (intE.cells (ints []))) := World.ownsRow_nil _ _ _ _
 clear hbx hb0 c1
 go_enter Tryz.func80, Tryz.ntmps80
 go_wp2
 clear c1' q0
 go_loopw [5, 6] (fun v u wr => ∃ (pre : List Nat) (i : Int), u = .int .i64 i ∧ pre.length ≤ t.fs.length ∧ Hid (ChSt t b pre i) ∧ wr.ownsRow (w.heap.size + 1) 3 1 v pre.length (intE.cells (ints pre)) ∧ Own wr w.heap.size 40 #[.slice (some ⟨b1, o1, none⟩) t.bs.length cb, .slice Af t.fs.length cf] ∧ Below w.heap.size w wr) (fun v _ _ => t.fs.length - lenV v)
 case atStart => exact ⟨[], i0, rfl, by simp, H0, HO.out, HBX.out, HB0.out⟩
 case round =>
  obtain ⟨pre, i, rfl, hpl, hst, hown, hbox, hb'⟩ := hrel
  obtain ⟨Ao, co, rfl, hoc, hom, hro⟩ := rs_own (E := intE) (l := ints pre) (ints_length pre).symm hown
  rw [ints_length] at *
  have q0 := hbox.cell_ 0 (v := .slice (some ⟨b1, o1, none⟩) t.bs.length cb) rfl
  have q1 := hbox.cell_ 1 (v := .slice Af t.fs.length cf) rfl
  have hbl := hbox.lt
  have HBOX := Hd hbox
  have HOWN := Hd hown
  clear hbox hown
  by_cases h1 : i = -1
  ·subst h1
   have hpe : pre = ch := by have := chst_end hst.out; rw [HCH.out] at this; injection this with this; exact this.symm
   subst hpe
   have HR : Hid (SlR intE wr (.slice Ao pre.length pre.length) (ints pre)) := ⟨Ao, pre.length, by rw [ints_length], by rw [ints_length]; omega, by omega, hro⟩
   have HCL := Hd (clipint_any Ao pre.length co wr hoc)
   clear hro
   go_wp2_with fail
   refine HCL.out.mono ?_
   rintro e w2 ⟨rfl, rfl⟩
   go_wp2
   go_ret
   exact ⟨_, rfl, HR.out, hb'⟩
  ·have g1 : (i == -1) = false := by rw [beq_eq_false_iff_ne]; exact h1
   have hin : 0 ≤ i ∧ i < t.fs.length := by
    by_cases h2 : 0 ≤ i ∧ i < t.fs.length
    ·exact h2
    ·have := chst_out hst.out h1 h2; rw [HCH.out] at this; cases this
   obtain ⟨h3, h4⟩ := hin
   obtain ⟨k, rfl⟩ := Int.eq_ofNat_of_zero_le h3
   have h5 : pre.length < t.fs.length := by
    by_cases h5 : pre.length < t.fs.length
    ·exact h5
    ·have := chst_full hst.out h1 (by omega); rw [HCH.out] at this; cases this
   obtain ⟨f, ef⟩ : ∃ f, t.fs[k]? = some f := ⟨_, List.getElem?_eq_getElem (by omega)⟩
   have hu : f.used = true := by
    cases hu : f.used with
    | true => rfl
    | false => have := chst_free hst.out ef hu; rw [HCH.out] at this; cases this
   obtain ⟨b2, o2, rfl, hb2, d0, d1, d2, d3, d4⟩ := (HF.out.below hb').fr ef
   have HST := Hd (chst_step hst.out ef hu h5)
   obtain ⟨v4, w4, hrun, hown4, hg4, _⟩ := run_append_i (w.heap.size + 1) wr _ pre.length (ints pre) (k : Int) HOWN.out (ints_length pre) (by omega) (by omega)
   have hb4 := bG (bA hb' (o := .cells #[.int .i64 (k : Int)] 3)) hg4 (fun x hx => by have := own_block HOWN.out x hx; omega)
   have hne : ∀ k, k ≤ w.heap.size → some k ≠ Value.ownBlock (.slice Ao pre.length co) := fun k hk e => by have := own_block HOWN.out k e.symm; omega
   have hd4 : w4.cell? ⟨b2, o2 + k * 5 + 4, none⟩ = some (.int .i64 f.n) := hg4.cell (a := ⟨b2, o2 + k * 5 + 4, none⟩) (((bA (bR (w := wr))).cell (p := ⟨b2, o2 + k * 5 + 4, none⟩) (by have := hb'.size; show b2 < _; omega)).trans d4) (hne b2 (by have := hb'.size; omega))
   have hbox4 := own_other (HBOX.out.alloc (o := .cells #[.int .i64 (k : Int)] 3)) hg4 (hne _ (Nat.le_refl _))
   rw [show ints pre ++ [(k : Int)] = ints (pre ++ [k]) by rw [ints_append]; rfl] at hown4
   obtain ⟨A4, c4, rfl, _, _, _⟩ := own_rd hown4
   have y1 := hbox4.cell_ 1 (v := .slice (some ⟨b2, o2, none⟩) t.fs.length cf) rfl
   have HB4 := Hd hbox4
   have HO4 := Hd hown4
   have hk0 : (0 : Int) ≤ (k : Int) := by omega
   clear hown4 hbox4 hg4 hne ef hu d0 d1 d2 d3 d4
   go_wp2_with (at_builtin; refine wpList_append_run _ rfl (.tmp 20) (.tmp 22) 22 rfl _ _ _ _ rfl rfl hrun ?_)
   go_roundw
   case rel => exact ⟨pre ++ [k], f.n, rfl, by simp; omega, HST, by simpa using HO4.out, HB4.out, hb4⟩
   case measure => simp [lenV]; omega
def fpI (t : Tab) (s p : Int) : Int := if fOK t s p = true then fndI t.fs s p else 0
set_option maxHeartbeats 2000000 in
theorem FindPage_any (vb vf : Value) (t : Tab) (s p : Int) (w : World) (hT : TaR w vb vf t) (hfree : Free w) :
    Calls Tryz.prog 25 #[.agg #[vb, vf], .agg #[.int .i64 s, .int .i64 p]] w (Post2 fun v w' => ∃ n : Int, v = .tuple #[.int .i64 (fpI t s p), .int .i64 n, .bool (fOK t s p)] ∧ Below w.heap.size w w') := by
  have HT := Hd hT
  have HF := Hd hfree
  obtain ⟨Ab, cb, rfl, hbc, hbm, hB⟩ := hT.b
  obtain ⟨Af, cf, rfl, hfc, hfm, hFs⟩ := hT.f
  clear hB hFs hfree
  obtain ⟨W0, hW, hbx, hky, hb0, hs0⟩ := box2 w #[.slice Ab t.bs.length cb, .slice Af t.fs.length cf] 40 #[.int .i64 s, .int .i64 p] 61
  have q0 := hbx.cell_ 0 (v := .slice Ab t.bs.length cb) rfl
  have q1 := hbx.cell_ 1 (v := .slice Af t.fs.length cf) rfl
  have HX0 := Hd hbx
  have HK0 := Hd hky
  have HB0 := Hd hb0
  clear hbx hky hb0
  go_enter Tryz.func25, Tryz.ntmps25
  go_wp2_with fail
  refine (TableValid_any _ _ t W0 (HT.out.now HB0.out) (HF.out.now HB0.out)).mono ?_
  rintro e w1 ⟨rfl, hb1⟩
  clear q0 q1
  have HX1 := Hd (HX0.out.below hb1)
  have HK1 := Hd (HK0.out.below hb1)
  have HB1 := Hd (bT HB0.out hb1)
  clear hb1 HX0 HK0 HB0
  cases htv : tv t with
  | false =>
    have HE : Hid (fOK t s p = false) := by show _ = _; unfold fOK; rw [htv]; rfl
    have HI : Hid (fpI t s p = 0) := by show _ = _; unfold fpI; rw [if_neg (by rw [HE.out]; decide)]
    go_wp2
    refine bodyPost_ret (v := .tuple #[.int .i64 (fpI t s p), .int .i64 0, .bool (fOK t s p)]) (by simp [results, Tryz.results25, go_sem, HE.out, HI.out]) rfl ⟨_, rfl, _, rfl, HB1.out⟩
  | true =>
    have k0 := HK1.out.cell_ 0 (v := .int .i64 s) rfl
    have k1 := HK1.out.cell_ 1 (v := .int .i64 p) rfl
    go_wp2_with fail
    refine (keyValid_any s p w1).mono ?_
    rintro e w2 ⟨rfl, hb2⟩
    clear k0 k1
    have HX2 := Hd (HX1.out.below hb2)
    have HK2 := Hd (HK1.out.below hb2)
    have HB2 := Hd (bT HB1.out hb2)
    clear hb2 HX1 HK1 HB1
    cases hk : kval (s, p) with
    | false =>
      have HE : Hid (fOK t s p = false) := by show _ = _; unfold fOK; rw [htv, hk]; rfl
      have HI : Hid (fpI t s p = 0) := by show _ = _; unfold fpI; rw [if_neg (by rw [HE.out]; decide)]
      go_wp2
      refine bodyPost_ret (v := .tuple #[.int .i64 (fpI t s p), .int .i64 0, .bool (fOK t s p)]) (by simp [results, Tryz.results25, go_sem, HE.out, HI.out]) rfl ⟨_, rfl, _, rfl, HB2.out⟩
    | true =>
      obtain ⟨⟨_, hfl, hb1', hbl⟩, _⟩ := tv_parts htv
      obtain ⟨ch, hch, _⟩ := fnd_chain htv hk
      obtain ⟨hbk, hbe⟩ := bkt_in hk hb1'
      have hcl := (show ch.length ≤ t.fs.length from by
        obtain ⟨x, _, ec⟩ := bch_some hch
        exact chn_len ec)
      have HH := Hd (fun W => post2_of (hash_any s p t.bs.length W hk ⟨by omega, by omega⟩))
      have HC := Hd (fun W (h : TaR W (.slice Ab t.bs.length cb) (.slice Af t.fs.length cf) t) => chain_any (.slice Ab t.bs.length cb) (.slice Af t.fs.length cf) t (bkt t s p) ch W h hbk (by omega) hch)
      have q0 := HX2.out.cell_ 0 (v := .slice Ab t.bs.length cb) rfl
      have q1 := HX2.out.cell_ 1 (v := .slice Af t.fs.length cf) rfl
      have k0 := HK2.out.cell_ 0 (v := .int .i64 s) rfl
      have k1 := HK2.out.cell_ 1 (v := .int .i64 p) rfl
      go_wp2
      go_region_held_law (fun w' => w'.cell? ⟨w.heap.size, 0, none⟩ = some (.slice Ab t.bs.length cb) ∧ w'.cell? ⟨w.heap.size, 1, none⟩ = some (.slice Af t.fs.length cf) ∧ w'.cell? ⟨w.heap.size + 1, 0, none⟩ = some (.int .i64 s) ∧ w'.cell? ⟨w.heap.size + 1, 1, none⟩ = some (.int .i64 p)) (go_keep) (first
        | (go_at_call 81
           refine (HH.out _).mono ?_
           rintro _ w3 ⟨_, rfl, rfl, hb3⟩
           rw [hbe]
           have HB3 := Hd (bT (bD HB2.out) hb3)
           have hx3 := HX2.out.drew.below hb3
           have hk3 := HK2.out.drew.below hb3
           have d0 := hx3.cell_ 0 (v := .slice Ab t.bs.length cb) rfl
           have d1 := hx3.cell_ 1 (v := .slice Af t.fs.length cf) rfl
           have d2 := hk3.cell_ 0 (v := .int .i64 s) rfl
           have d3 := hk3.cell_ 1 (v := .int .i64 p) rfl
           have HX3 := Hd hx3
           have HK3 := Hd hk3
           clear hx3 hk3 hb3)
        | (go_at_call 80
           refine (HC.out _ (HT.out.now HB3.out)).mono ?_
           rintro _ w4 ⟨_, rfl, hsv, hb4⟩
           have HB4 := Hd (bT HB3.out hb4)
           have hx4 := HX3.out.below hb4
           have hk4 := HK3.out.below hb4
           have e0 := hx4.cell_ 0 (v := .slice Ab t.bs.length cb) rfl
           have e1 := hx4.cell_ 1 (v := .slice Af t.fs.length cf) rfl
           have e2 := hk4.cell_ 0 (v := .int .i64 s) rfl
           have e3 := hk4.cell_ 1 (v := .int .i64 p) rfl
           have HX4 := Hd hx4
           have HK4 := Hd hk4
           obtain ⟨Al, cl, rfl, hlc, hlm, hL⟩ := hsv
           have HL := Hd hL
           rw [ints_length] at *
           clear hx4 hk4 hb4 hL d0 d1 d2 d3))
      all_goals
        go_wp2
        clear e0 e1 e2 e3
        go_loopw [27] (fun u wi => ∃ r : Nat, r ≤ ch.length ∧ u = .int .i64 r ∧ Hid (∀ (m j : Nat) (f : Fr), m < r → ch[m]? = some j → t.fs[j]? = some f → ¬ (f.s, f.p) = (s, p)) ∧ Below w4.heap.size w4 wi) (fun u _ => ch.length - (intOf u).toNat)
        case atStart => exact ⟨0, by omega, rfl, (fun m j f h => absurd h (by omega)), bR⟩
        case round =>
          obtain ⟨r, hr, rfl, hacc, hbi⟩ := hrel
          by_cases hlr : r < ch.length
          · obtain ⟨j, ej⟩ : ∃ j, ch[r]? = some j := ⟨_, List.getElem?_eq_getElem hlr⟩
            obtain ⟨f, ef, huf⟩ := bch_mem hch j (List.mem_of_getElem? ej)
            obtain ⟨hjl, _⟩ := List.getElem?_eq_some_iff.1 ef
            obtain ⟨b5, o5, hAl, hb5, y0⟩ := (HL.out.now (Nat.le_refl _) hbi).i1 (ints_get ej)
            obtain ⟨b4, o4, hAf, hb4, x0, x1, x2, x3, x4⟩ := ((HT.out.now (bT HB4.out hbi)).fsl).fr ef
            subst hAl hAf
            have z1 := xcell (w := wr) ((HX4.out.below hbi).cell_ 1 (v := .slice (some ⟨b4, o4, none⟩) t.fs.length cf) rfl) (HX4.out.below hbi).lt
            have z2 := xcell (w := wr) ((HK4.out.below hbi).cell_ 0 (v := .int .i64 s) rfl) (HK4.out.below hbi).lt
            have z3 := xcell (w := wr) ((HK4.out.below hbi).cell_ 1 (v := .int .i64 p) rfl) (HK4.out.below hbi).lt
            have z5 := xcell (w := wr) x1 (by show b4 < _; omega)
            have z6 := xcell (w := wr) x2 (by show b4 < _; omega)
            have hj2 : (j : Int) < (t.fs.length : Int) := by omega
            have he := fun W => eql_key f.s f.p s p W
            have hi1 : ((ints ch).length : Int) = (ch.length : Int) := by rw [ints_length]
            cases hq1 : keq f.s f.p s p with
            | true =>
              rw [hq1] at he
              have hfn := chain_some htv hk hch ej ef (keq_iff.1 hq1)
              have HE : Hid (fOK t s p = true) := by show _ = _; unfold fOK; rw [htv, hk, hfn]; simp
              have HI : Hid (fpI t s p = (j : Int)) := by show _ = _; unfold fpI; rw [if_pos HE.out, hfn]
              clear ej ef huf x0 x1 x2 x3 x4 hfn
              go_wp2
              refine wp_region_ext (by kernel_rfl) (by kernel_rfl) ?_
              repeat (go_big_quiet_step (fail))
              refine wpQuiet_nil ?_
              intro _ hw'
              obtain ⟨⟨wq, hq⟩, hw''⟩ := hw'
              subst hw''
              try dsimp only
              go_wp2
              refine bodyPost_ret (v := .tuple #[.int .i64 (fpI t s p), .int .i64 ((r : Int) + 1), .bool (fOK t s p)]) (by simp [results, Tryz.results25, go_sem, HE.out, HI.out]) rfl ⟨_, rfl, _, rfl, bT HB4.out (bT hbi hq)⟩
            | false =>
              rw [hq1] at he
              have HACC : Hid (∀ (m j : Nat) (f : Fr), m < r + 1 → ch[m]? = some j → t.fs[j]? = some f → ¬ (f.s, f.p) = (s, p)) := fun m j' f' hm e1 e2 => by
                rcases Nat.lt_or_ge m r with h | h
                · exact hacc.out m j' f' h e1 e2
                · obtain rfl : m = r := by omega
                  rw [ej] at e1
                  injection e1 with e1
                  subst e1
                  rw [ef] at e2
                  injection e2 with e2
                  subst e2
                  exact keq_no hq1
              clear ej ef huf x0 x1 x2 x3 x4
              go_wp2
              refine wp_region_ext (by kernel_rfl) (by kernel_rfl) ?_
              repeat (go_big_quiet_step (fail))
              refine wpQuiet_nil ?_
              intro _ hw'
              obtain ⟨⟨wq, hq⟩, hw''⟩ := hw'
              subst hw''
              try dsimp only
              go_wp2
              go_roundw
              case rel => exact ⟨r + 1, by omega, by go_num, HACC, bT hbi hq⟩
              case measure => simp [intOf]; omega
          · obtain rfl : r = ch.length := by omega
            have hfn : fndI t.fs s p = -1 := chain_none htv hk hch (fun m j f e1 e2 => hacc.out m j f (List.getElem?_eq_some_iff.1 e1).1 e1 e2)
            have HE : Hid (fOK t s p = false) := by show _ = _; unfold fOK; rw [hfn]; simp
            have HI : Hid (fpI t s p = 0) := by show _ = _; unfold fpI; rw [if_neg (by rw [HE.out]; decide)]
            clear hfn
            go_wp2
            refine bodyPost_ret (v := .tuple #[.int .i64 (fpI t s p), .int .i64 (ch.length : Int), .bool (fOK t s p)]) (by simp [results, Tryz.results25, go_sem, HE.out, HI.out]) rfl ⟨_, rfl, _, rfl, bT HB4.out hbi⟩
end Go.Proofs.YtibpnlojlfcpmaaGreatDoor
namespace Go.Proofs.YtibpnlojlfcpmaaGreatDoor.lRangeGuard
open Go.RowKit
set_option maxHeartbeats 4000000 in
theorem walk (a0 : Option Addr) (len0 cap0 : Nat) (z0 : List Int) (w : World) (w0 : IsRow .u8 w a0 len0 cap0 z0) (hfree : Free w) :
  Calls Tryz.prog 5 #[.slice a0 len0 cap0] w fun e w' => e = .returned (.bool true) ∧ Below w.heap.size w w' := by
 by_cases hbig : 1048576 < len0
 ·go_enter Tryz.func5, Tryz.ntmps5
  go_wp2
  go_ret
  exact ⟨rfl, by repeat first | exact bR | refine bA ?_⟩
 have hcap := row_cap w0
 have hby := Hd (row_bytes w0)
 have HF := Hd hfree
 clear w0 hfree
 go_enter Tryz.func5, Tryz.ntmps5
 go_wp2_with fail
 refine (DrawRangesOf_any a0 len0 cap0 w hby.out hcap (by omega)).mono ?_
 rintro e w1 ⟨_, rfl, m, v1, v2, v3, v4, s, rfl, hM, hz, hss, hb1⟩
 obtain ⟨A1, c1, rfl, _⟩ := hM.t.b
 obtain ⟨A2, c2, rfl, _⟩ := hM.t.f
 obtain ⟨A3, c3, rfl, _⟩ := hM.l
 obtain ⟨A4, c4, rfl, _⟩ := hM.o
 obtain ⟨w2, hW2, hx, hb2, _⟩ := box1 w1 #[.slice A1 m.t.bs.length c1, .slice A2 m.t.fs.length c2, .slice A3 m.c.ls.length c3, .int .i64 m.c.hand, .int .i64 m.g.count, .int .i64 m.g.next, .int .i64 m.g.round, .slice A4 m.g.os.length c4, .int .i64 m.sp] 48
 have HM := Hd (hM.now hb2)
 have HX := Hd hx
 have HB := Hd (bT hb1 hb2)
 clear hM hx hb1 hb2
 generalize hmb : w1.heap.size = mb at *
 go_upto_region 4 with fail
 try rw [hW2]
 clear hW2
 obtain ⟨p0a, p1a, p2a, p3a, p4a, p5a, p6a, p7a, p8a⟩ := cells9 HX.out
 go_wp2_with fail
 refine (RangesOf_any _ _ _ _ m s w2 HM.out.r (HF.out.now HB.out)).mono ?_
 rintro e w3 ⟨_, rfl, pl, rfl, hr3, hb3⟩
 clear p0a p1a p2a p3a p4a p5a p6a p7a p8a
 replace HM := Hd (HM.out.now hb3)
 replace HX := Hd (HX.out.below hb3)
 replace HB := Hd (bT HB.out hb3)
 have HR := Hd hr3
 clear hr3 hb3
 obtain ⟨p0a, p1a, p2a, p3a, p4a, p5a, p6a, p7a, p8a⟩ := cells9 HX.out
 go_wp2_with fail
 refine (sRangesOf_any _ _ _ _ m s w3 HM.out.r).mono ?_
 rintro e w5 ⟨_, rfl, pl2, rfl, hr5, hb5⟩
 clear p0a p1a p2a p3a p4a p5a p6a p7a p8a
 replace HM := Hd (HM.out.now hb5)
 replace HX := Hd (HX.out.below hb5)
 replace HB := Hd (bT HB.out hb5)
 replace HR := Hd (HR.out.now hb5)
 have HS := Hd hr5
 clear hr5 hb5
 obtain ⟨O, hO⟩ : ∃ O, rgsO m s = O := ⟨_, rfl⟩
 have hP : O = true → mav m = true ∧ RgI m.t s (kys m.t) (rgsV m s) := fun h => ⟨by have h9 := hO.trans h; unfold rgsO at h9; rw [Bool.and_eq_true] at h9; exact h9.1, rgs_parts (hO.trans h)⟩
 rw [hO]
 generalize rgsV m s = a at *
 obtain ⟨_, A8, c8, rfl, _⟩ := id HR.out
 obtain ⟨_, A9, c9, rfl, _⟩ := id HS.out
 go_wp2_with fail
 refine (ipLists_rs _ _ _ _ _ _ _ a w5 HR.out HS.out).mono ?_
 rintro e w7 ⟨rfl, hb7⟩
 replace HM := Hd (HM.out.now hb7)
 replace HX := Hd (HX.out.below hb7)
 replace HB := Hd (bT HB.out hb7)
 replace HR := Hd (HR.out.now hb7)
 replace HS := Hd (HS.out.now hb7)
 clear hb7
 cases O with
 | false =>
  go_wp2_with fail
  refine (ipLists_rs _ _ _ _ _ _ _ a _ HR.out HS.out).mono ?_
  rintro e w8 ⟨rfl, hb8⟩
  have HBE := Hd (bT HB.out hb8)
  go_wp2
  go_ret
  exact ⟨rfl, HBE.out⟩
 | true =>
  obtain ⟨hmm, P⟩ := hP rfl
  have hkl : (kys m.t).length ≤ 16 := by have := kys_len m.t; have := ((tv_parts (mav_parts hmm).1).1).2.1; omega
  have hal : a.length ≤ 16 := by have := P.len; omega
  have HP := Hd P
  have HMM := Hd hmm
  clear hO hP P hmm HS
  go_wp2
  go_loopw [9] (fun u wr => ∃ k : Nat, k ≤ a.length ∧ u = .int .i64 k ∧ Below w7.heap.size w7 wr) (fun u _ => a.length - (intOf u).toNat)
  case atStart => exact ⟨0, by omega, rfl, bR⟩
  case round =>
   obtain ⟨k, hk, rfl, hbr⟩ := hrel
   replace HM := Hd (HM.out.now hbr)
   replace HX := Hd (HX.out.below hbr)
   replace HB := Hd (bT HB.out hbr)
   replace HR := Hd (HR.out.now hbr)
   by_cases hlt : k < a.length
   ·obtain ⟨⟨xp, xc, xr⟩, ex⟩ : ∃ x, a[k]? = some x := ⟨_, List.getElem?_eq_getElem hlt⟩
    have HEX := Hd ex
    have hki : (k : Int) < (a.length : Int) := by omega
    have hk0 : (0 : Int) ≤ (k : Int) := by omega
    obtain ⟨hp1, hp2, hp3⟩ := HP.out.pos _ (List.mem_of_getElem? ex)
    have HMEM := Hd (HP.out.mem _ (List.mem_of_getElem? ex))
    simp only at hp1 hp2 hp3
    obtain ⟨b1, o1, g1, rfl, hbg1, cg1, hog1⟩ := HR.out.at_ ex
    have s1 := hog1.cell_ 0 (v := .int .i64 xp) rfl
    have hwx : IntKind.i64.wrap (xp + xc) = xp + xc := IntWalk.i64_in _ (by omega)
    have HBR := Hd hbr
    clear ex hog1 hbr
    go_wp2
    clear s1 cg1 hbg1
    go_loopw [10] (fun u wz => ∃ q : Int, xp ≤ q ∧ q ≤ xp + xc ∧ u = .int .i64 q ∧ Below wr.heap.size wr wz) (fun u _ => (xp + xc - intOf u).toNat)
    case atStart => exact ⟨xp, by omega, by omega, rfl, bR⟩
    case round =>
     obtain ⟨q, hqa, hqb, rfl, hbz⟩ := hrel
     replace HM := Hd (HM.out.now hbz)
     replace HX := Hd (HX.out.below hbz)
     replace HB := Hd (bT HB.out hbz)
     replace HR := Hd (HR.out.now hbz)
     have HBZ := Hd hbz
     obtain ⟨b2, o2, g2, he2, hbg2, cg2, hog2⟩ := HR.out.at_ HEX.out
     injection he2 with he2
     injection he2 with he2 he3
     subst he2 he3
     have t0 := xcell cg2 hbg2
     have t1 := xcell (hog2.cell_ 0 (v := .int .i64 xp) rfl) hog2.lt
     have t2 := xcell (hog2.cell_ 1 (v := .int .i64 xc) rfl) hog2.lt
     clear cg2 hog2 hbz
     by_cases hqc : q < xp + xc
     ·have hqd : decide (q < xp + xc) = true := decide_eq_true hqc
      obtain ⟨hmem, hrt⟩ := HMEM.out q hqa hqc
      obtain ⟨i, f, hi, ef, hrf⟩ := key_at HMM.out hmem
      have hfr : f.r = xr := hrf.symm.trans hrt
      simp only at hi
      have hfo : fOK m.t s q = true := (takO_iff.1 (keys_takO HMM.out (s := s) (p := q) ((kys_perm (mav_parts HMM.out).1).mem_iff.1 hmem))).2
      have HFI : Hid (fpI m.t s q = (i : Int)) := by show _ = _; unfold fpI; rw [if_pos hfo, hi]
      have HFO := Hd hfo
      have HEF := Hd ef
      have HFR := Hd hfr
      have hil := (List.getElem?_eq_some_iff.1 ef).1
      have hii : (i : Int) < (m.t.fs.length : Int) := by omega
      have hi0 : (0 : Int) ≤ (i : Int) := by omega
      have hwq : IntKind.i64.wrap (q + 1) = q + 1 := IntWalk.i64_in _ (by omega)
      clear hmem hrt hi ef hrf hfr hfo hil
      go_wp2
      refine wp_region_ext (by kernel_rfl) (by kernel_rfl) ?_
      repeat (go_big_quiet_step (fail))
      refine wpQuiet_nil ?_
      intro _ hw'
      obtain ⟨⟨wq, hq⟩, hw''⟩ := hw'
      subst hw''
      try dsimp only
      clear t0 t1 t2 hqd
      replace HM := Hd (HM.out.now hq)
      replace HX := Hd (HX.out.below hq)
      replace HB := Hd (bT HB.out hq)
      replace HR := Hd (HR.out.now hq)
      replace HBZ := Hd (bT HBZ.out hq)
      clear hq
      have x0 := HX.out.cell_ 0 (v := .slice A1 m.t.bs.length c1) rfl
      have x1 := HX.out.cell_ 1 (v := .slice A2 m.t.fs.length c2) rfl
      go_wp2_with fail
      refine (FindPage_any _ _ m.t s q _ HM.out.r.t (HF.out.now HB.out)).mono ?_
      rintro e w9 ⟨_, rfl, nst, rfl, hb9⟩
      rw [HFO.out, HFI.out]
      replace HM := Hd (HM.out.now hb9)
      replace HX := Hd (HX.out.below hb9)
      replace HR := Hd (HR.out.now hb9)
      replace HBZ := Hd (bT HBZ.out hb9)
      clear x0 x1 hb9
      obtain ⟨b', o', eA, hbb', d0, d1, d2, d3, d4⟩ := HM.out.r.t.fsl.fr HEF.out
      subst eA
      rw [HFR.out] at d3
      obtain ⟨b2, o2, g2, he2, hbg2, cg2, hog2⟩ := HR.out.at_ HEX.out
      injection he2 with he2
      injection he2 with he2 he3
      subst he2 he3
      have t0 := xcell cg2 hbg2
      have t1 := xcell (hog2.cell_ 2 (v := .int .i64 xr) rfl) hog2.lt
      have t2 := xcell (HX.out.cell_ 1 (v := .slice (some ⟨b', o', none⟩) m.t.fs.length c2) rfl) HX.out.lt
      have t3 := xcell d3 hbb'
      clear d0 d1 d2 d3 d4 cg2 hog2
      go_wp2
      refine wp_region_ext (by kernel_rfl) (by kernel_rfl) ?_
      repeat (go_big_quiet_step (fail))
      refine wpQuiet_nil ?_
      intro _ hw'
      obtain ⟨⟨wq, hq⟩, hw''⟩ := hw'
      subst hw''
      try dsimp only
      have HBE := Hd (bT HBZ.out hq)
      clear t0 t1 t2 t3 hq HM HX HR HB HBZ
      go_wp2
      go_roundw
      case rel => exact ⟨q + 1, by omega, by omega, rfl, HBE.out⟩
      case measure => simp [intOf]; omega
     ·have hqd : decide (q < xp + xc) = false := decide_eq_false hqc
      go_wp2
      refine wp_region_ext (by kernel_rfl) (by kernel_rfl) ?_
      repeat (go_big_quiet_step (fail))
      refine wpQuiet_nil ?_
      intro _ hw'
      obtain ⟨⟨wq, hq⟩, hw''⟩ := hw'
      subst hw''
      try dsimp only
      have HBE := Hd (bT HBR.out (bT HBZ.out hq))
      clear t0 t1 t2 hq HM HX HR HB HBZ HBR
      go_wp2
      go_roundw
      case rel => exact ⟨k + 1, by omega, by simp, HBE.out⟩
      case measure => simp [intOf]; omega
   ·obtain rfl : k = a.length := by omega
    have hki : decide ((a.length : Int) < (a.length : Int)) = false := by simp
    go_wp2
    go_ret
    exact ⟨rfl, HB.out⟩
end Go.Proofs.YtibpnlojlfcpmaaGreatDoor.lRangeGuard
namespace Go.Proofs.YtibpnlojlfcpmaaGreatDoor.lRangeGuard
open Go.ChangeShapes Go.WideShapes Go.ChangeAt Go.RowKit Go.Joins
set_option maxRecDepth 100000 in
theorem lifted (os : Os) (started : os.Started) (H : Type) (enc : TypeId × Value → H) :
  ReturnsInHanded {} Tryz.checked os 5 .any (fun w args => (Rows.fnRangeGuardSpec.pre enc Tryz.prog Tryz.f5 Rows.fnRangeGuardRow.domain false w args ∧ laidMet Tryz.prog [("loop.example/invertedpages/impl.free", Rows.laid_loop_example_invertedpages_impl_free)] w) ∧ sizedMet enc Tryz.prog Tryz.f5 (OpenSpec.ofChange Rows.fnRangeGuardSpec) false w args)
   (Rows.fnRangeGuardSpec.post enc Tryz.prog Tryz.f5 false true false false) := by
 refine returnsInHanded_of_change_and (C := Tryz.checked) (X := fun w _ => laidMet Tryz.prog [("loop.example/invertedpages/impl.free", Rows.laid_loop_example_invertedpages_impl_free)] w) (fun _ _ _ hh h => h.of_heap hh) own_ started (by kernel_rfl) Tryz.func5
  (ChangeSpec.witness_at (enc := enc) (C := Tryz.checked) (os := os) (X := fun w _ => laidMet Tryz.prog [("loop.example/invertedpages/impl.free", Rows.laid_loop_example_invertedpages_impl_free)] w) false (laidWorld os) #[.slice none 0 0] 8 rfl (by kernel_rfl) (by kernel_rfl) (by kernel_rfl) (by kernel_rfl) (by kernel_rfl) (laid_met os _)) ?_
 intro W base args ds gs before hval0 hW hcnd _ hL _
 have hval : ∀ (j : Nat) t v, Tryz.f5.params[j]? = some t → args[j]? = some v → Value.okWide Tryz.prog W .any base t v := hval0
 have hW' := hW
 obtain ⟨p, q, hA0, hV0, rfl, hfz, hnd⟩ := hW
 have hA : DataW.TrodAll enc Tryz.prog W 0 (fun _ => true) true Tryz.f5.params.toList args.toList ds p := hA0
 have hV : DataW.TrodVars enc Tryz.prog W (fun _ => true) ["loop.example/invertedpages/impl.free"] gs q := hV0
 rw [Tryz.params5] at hA hval
 obtain ⟨v0, vs0, d0, ds0, p0, q0, hargs, rfl, rfl, h0, r0⟩ := trodAll_cons hA
 obtain ⟨rfl, rfl, rfl⟩ := trodAll_nil r0
 obtain rfl : args = #[v0] := by cases args; simp_all
 obtain ⟨hvar0, hfree⟩ := free_of_laid hL
 obtain ⟨g, t, cs, fuel, d, p', rfl, hg, ht, hvar, hd, rfl⟩ := trodVars_one hV
 obtain rfl := Option.some.inj (free_named.symm.trans hg)
 obtain rfl := Option.some.inj (free_type.symm.trans ht)
 obtain rfl : cs = freeCells := Option.some.inj (hvar.symm.trans hvar0)
 have k0 := h0
 have lt0 : ∀ x ∈ p0, x.block < W.heap.size := by obtain ⟨m, hm⟩ := k0; exact DataW.trod_lt m _ _ _ hm
 have kd : DataW.Trod enc Tryz.prog W 0 (fun _ => true) true 66 (.agg freeCells) d p' := ⟨fuel, hd⟩
 have ltd : ∀ x ∈ p', x.block < W.heap.size := DataW.trod_lt fuel _ _ _ hd
 obtain ⟨a0, len0, cap0, rfl⟩ := okWide_slice Tryz.underlying55 (hval 0 55 v0 rfl rfl)
 obtain ⟨z0, w0⟩ : ∃ zs, IsRow .u8 W a0 len0 cap0 zs := by
  obtain ⟨fuel, hf⟩ := h0
  rcases open_ints Tryz.underlying55 Tryz.underlying5 (by kernel_rfl) hf with ⟨hcs, _⟩ | ⟨x, l, c, zs, hcs, _, hl, hm, hz, _, hcell, hwz⟩
  ·simp [Value.cells] at hcs
   obtain ⟨rfl, rfl, rfl⟩ := hcs
   exact ⟨[], .inl ⟨rfl, rfl, rfl, rfl⟩⟩
  ·simp [Value.cells] at hcs
   obtain ⟨rfl, rfl, rfl⟩ := hcs
   exact ⟨zs, .inr ⟨_, rfl, hl, hm, by simpa using hz, hcell, hwz⟩⟩
 clear hA0 hV0 hval0
 refine (walk a0 len0 cap0 z0 W w0 hfree).mono fun e W' ⟨he, bel⟩ => ?_
 subst he
 have hvar' := var_stays hg hvar bel (Nat.le_refl _)
 obtain ⟨fuel', hd'⟩ := Below.trod laidOut (by kernel_rfl) (of_decide_eq_true (by kernel_rfl)) kd bel ltd
 exact ⟨_, rfl, _, _, _, [], _, _, hW', trodAll_mk1 (shut_bool Tryz.underlying4 _), (trodAll_cons_mk (Below.trod laidOut (by kernel_rfl) (of_decide_eq_true (by kernel_rfl)) k0 bel lt0) trodAll_mk0), ⟨0, 66, freeCells, fuel', _, _, hg, ht, hvar', hd', rfl, rfl⟩, bel.frame _, fun h => by cases h⟩
theorem over : Rows.fnRangeGuardRow.holds Tryz.pinned (OpenSpec.ofChange Rows.fnRangeGuardSpec) :=
 OpenClaim.holds_of_wide 5 Tryz.f5 rfl rfl rfl rfl rfl rfl rfl ⟨rfl, rfl, rfl, rfl, rfl⟩ rfl rfl rfl rfl rfl (by kernel_rfl) Tryz.func5 closed
  (of_decide_eq_true (by kernel_rfl)) (by unfold Func.isWrapper; rw [if_neg (of_decide_eq_false (by kernel_rfl))]; exact ⟨rfl, rfl⟩)
  (fun os started H enc _ => lifted os started H enc)
end Go.Proofs.YtibpnlojlfcpmaaGreatDoor.lRangeGuard
