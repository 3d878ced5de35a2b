/- A part of the proofs of this seat: Fp, LTo. -/
import Derived.Deep.CutRange
import Derived.Test.YtnaagdmaggdbmaaGreatDoorTCaP
import Derived.Test.YtnaagdmaggdbmaaGreatDoorTTI
import Derived.Test.YtnaagdmaggdbmaaGreatDoorTCopy
import Derived.Test.YtnaagdmaggdbmaaGreatDoorTCp6
import Derived.Test.YtnaagdmaggdbmaaGreatDoorTKeep
import Derived.Test.YtnaagdmaggdbmaaGreatDoorTVal
import Derived.Test.YtnaagdmaggdbmaaGreatDoorTTchP
import Derived.Test.YtnaagdmaggdbmaaGreatDoorTRgG
import Derived.Test.YtnaagdmaggdbmaaGreatDoorTTkS
import Derived.Test.YtnaagdmaggdbmaaGreatDoorTKt
set_option linter.unusedVariables false
set_option linter.unusedSimpArgs false
namespace Go.Proofs.YtnaagdmaggdbmaaGreatDoor
open Go.RowKit
set_option maxRecDepth 1000000
set_option linter.unusedVariables false
set_option maxHeartbeats 2000000 in
theorem chain_any (vb vf : Value) (t : Tab) (b : Nat) (ch : List Nat) (w : World) (hT : TaR w vb vf t) (hb : b < t.bs.length) (hl : t.fs.length ≤ 100000) (hch : bch t b = some ch) :
  Calls Tryz.prog 74 #[.agg #[vb, vf], .int .i64 b] w (Post2 fun v w' => SlR intE w' v (ints ch) ∧ Below w.heap.size w w') := by
 obtain ⟨Ab, cb, rfl, hbc, hbm, hB⟩ := hT.b
 obtain ⟨Af, cf, rfl, hfc, hfm, hF⟩ := hT.f
 obtain ⟨i0, ei0⟩ : ∃ i0, t.bs[b]? = some i0 := ⟨_, List.getElem?_eq_getElem hb⟩
 have H0 := Lib.hid (chst_zero ei0)
 obtain ⟨b1, o1, rfl, hb1, c1⟩ := hB.i1 ei0
 have HF := Lib.hid hF
 have HCH := Lib.hid hch
 clear hF hB hT ei0 hch
 obtain ⟨W0, hW, hbx, hb0, hs0⟩ := box1 w #[.slice (some ⟨b1, o1, none⟩) t.bs.length cb, .slice Af t.fs.length cf] 26
 have HBX := Lib.hid hbx
 have HB0 := Lib.hid hb0
 have c1' := (hb0.cell (p := ⟨b1, o1 + b, none⟩) (by show b1 < _; omega)).trans c1
 have q0 := hbx.cell_ 0 (v := .slice (some ⟨b1, o1, none⟩) t.bs.length cb) rfl
 have HO : Hid (W0.ownsRow (w.heap.size + 1) 3 1 (.slice none 0 0) 0 (intE.cells (ints []))) := World.ownsRow_nil _ _ _ _
 clear hbx hb0 c1
 go_enter Tryz.func74, Tryz.ntmps74
 go_wp2
 clear c1' q0
 go_loopw [5, 6] (fun v u wr => ∃ (pre : List Nat) (i : Int), u = .int .i64 i ∧ pre.length ≤ t.fs.length ∧ Hid (ChSt t b pre i) ∧ wr.ownsRow (w.heap.size + 1) 3 1 v pre.length (intE.cells (ints pre)) ∧ Own wr w.heap.size 26 #[.slice (some ⟨b1, o1, none⟩) t.bs.length cb, .slice Af t.fs.length cf] ∧ Below w.heap.size w wr) (fun v _ _ => t.fs.length - lenV v)
 case atStart => exact ⟨[], i0, rfl, by simp, H0, HO.out, HBX.out, HB0.out⟩
 case round =>
  obtain ⟨pre, i, rfl, hpl, hst, hown, hbox, hb'⟩ := hrel
  obtain ⟨Ao, co, rfl, hoc, hom, hro⟩ := rs_own (E := intE) (l := ints pre) (ints_length pre).symm hown
  rw [ints_length] at *
  have q0 := hbox.cell_ 0 (v := .slice (some ⟨b1, o1, none⟩) t.bs.length cb) rfl
  have q1 := hbox.cell_ 1 (v := .slice Af t.fs.length cf) rfl
  have hbl := hbox.lt
  have HBOX := Lib.hid hbox
  have HOWN := Lib.hid hown
  clear hbox hown
  by_cases h1 : i = -1
  ·subst h1
   have hpe : pre = ch := by have := chst_end hst.out; rw [HCH.out] at this; injection this with this; exact this.symm
   subst hpe
   have HR : Hid (SlR intE wr (.slice Ao pre.length pre.length) (ints pre)) := ⟨Ao, pre.length, by rw [ints_length], by rw [ints_length]; omega, by omega, hro⟩
   have HCL := Lib.hid (clipint_any Ao pre.length co wr hoc)
   clear hro
   go_wp2_with fail
   refine HCL.out.mono ?_
   rintro e w2 ⟨rfl, rfl⟩
   go_wp2
   go_ret
   exact ⟨_, rfl, HR.out, hb'⟩
  ·have g1 : (i == -1) = false := by rw [beq_eq_false_iff_ne]; exact h1
   have hin : 0 ≤ i ∧ i < t.fs.length := by
    by_cases h2 : 0 ≤ i ∧ i < t.fs.length
    ·exact h2
    ·have := chst_out hst.out h1 h2; rw [HCH.out] at this; cases this
   obtain ⟨h3, h4⟩ := hin
   obtain ⟨k, rfl⟩ := Int.eq_ofNat_of_zero_le h3
   have h5 : pre.length < t.fs.length := by
    by_cases h5 : pre.length < t.fs.length
    ·exact h5
    ·have := chst_full hst.out h1 (by omega); rw [HCH.out] at this; cases this
   obtain ⟨f, ef⟩ : ∃ f, t.fs[k]? = some f := ⟨_, List.getElem?_eq_getElem (by omega)⟩
   have hu : f.used = true := by
    cases hu : f.used with
    | true => rfl
    | false => have := chst_free hst.out ef hu; rw [HCH.out] at this; cases this
   obtain ⟨b2, o2, rfl, hb2, d0, d1, d2, d3, d4⟩ := (HF.out.below hb').fr ef
   have HST := Lib.hid (chst_step hst.out ef hu h5)
   obtain ⟨v4, w4, hrun, hown4, hg4, _⟩ := run_append_i (w.heap.size + 1) wr _ pre.length (ints pre) (k : Int) HOWN.out (ints_length pre) (by omega) (by omega)
   have hb4 := bG (bA hb' (o := .cells #[.int .i64 (k : Int)] 3)) hg4 (fun x hx => by have := own_block HOWN.out x hx; omega)
   have hne : ∀ k, k ≤ w.heap.size → some k ≠ Value.ownBlock (.slice Ao pre.length co) := fun k hk e => by have := own_block HOWN.out k e.symm; omega
   have hd4 : w4.cell? ⟨b2, o2 + k * 5 + 4, none⟩ = some (.int .i64 f.n) := hg4.cell (a := ⟨b2, o2 + k * 5 + 4, none⟩) (((bA (bR (w := wr))).cell (p := ⟨b2, o2 + k * 5 + 4, none⟩) (by have := hb'.size; show b2 < _; omega)).trans d4) (hne b2 (by have := hb'.size; omega))
   have hbox4 := own_other (HBOX.out.alloc (o := .cells #[.int .i64 (k : Int)] 3)) hg4 (hne _ (Nat.le_refl _))
   rw [show ints pre ++ [(k : Int)] = ints (pre ++ [k]) by rw [ints_append]; rfl] at hown4
   obtain ⟨A4, c4, rfl, _, _, _⟩ := own_rd hown4
   have y1 := hbox4.cell_ 1 (v := .slice (some ⟨b2, o2, none⟩) t.fs.length cf) rfl
   have HB4 := Lib.hid hbox4
   have HO4 := Lib.hid hown4
   have hk0 : (0 : Int) ≤ (k : Int) := by omega
   clear hown4 hbox4 hg4 hne ef hu d0 d1 d2 d3 d4
   go_wp2_with (at_builtin; refine wpList_append_run _ rfl (.tmp 20) (.tmp 22) 23 rfl _ _ _ _ rfl rfl hrun ?_)
   go_roundw
   case rel => exact ⟨pre ++ [k], f.n, rfl, by simp; omega, HST, by simpa using HO4.out, HB4.out, hb4⟩
   case measure => simp [lenV]; omega
def fpI (t : Tab) (s p : Int) : Int := if fOK t s p = true then fndI t.fs s p else 0
set_option maxHeartbeats 2000000 in
theorem FindPage_any (vb vf : Value) (t : Tab) (s p : Int) (w : World) (hT : TaR w vb vf t) (hfree : Free w) :
    Calls Tryz.prog 25 #[.agg #[vb, vf], .agg #[.int .i64 s, .int .i64 p]] w (Post2 fun v w' => ∃ n : Int, v = .tuple #[.int .i64 (fpI t s p), .int .i64 n, .bool (fOK t s p)] ∧ Below w.heap.size w w') := by
  have HT := Lib.hid hT
  have HF := Lib.hid hfree
  obtain ⟨Ab, cb, rfl, hbc, hbm, hB⟩ := hT.b
  obtain ⟨Af, cf, rfl, hfc, hfm, hFs⟩ := hT.f
  clear hB hFs hfree
  obtain ⟨W0, hW, hbx, hky, hb0, hs0⟩ := box2 w #[.slice Ab t.bs.length cb, .slice Af t.fs.length cf] 26 #[.int .i64 s, .int .i64 p] 36
  have q0 := hbx.cell_ 0 (v := .slice Ab t.bs.length cb) rfl
  have q1 := hbx.cell_ 1 (v := .slice Af t.fs.length cf) rfl
  have HX0 := Lib.hid hbx
  have HK0 := Lib.hid hky
  have HB0 := Lib.hid hb0
  clear hbx hky hb0
  go_enter Tryz.func25, Tryz.ntmps25
  go_wp2_with fail
  refine (TableValid_any _ _ t W0 (HT.out.now HB0.out) (HF.out.now HB0.out)).mono ?_
  rintro e w1 ⟨rfl, hb1⟩
  clear q0 q1
  have HX1 := Lib.hid (HX0.out.below hb1)
  have HK1 := Lib.hid (HK0.out.below hb1)
  have HB1 := Lib.hid (bT HB0.out hb1)
  clear hb1 HX0 HK0 HB0
  cases htv : tv t with
  | false =>
    have HE : Hid (fOK t s p = false) := by show _ = _; unfold fOK; rw [htv]; rfl
    have HI : Hid (fpI t s p = 0) := by show _ = _; unfold fpI; rw [if_neg (by rw [HE.out]; decide)]
    go_wp2
    refine bodyPost_ret (v := .tuple #[.int .i64 (fpI t s p), .int .i64 0, .bool (fOK t s p)]) (by simp [results, Tryz.results25, go_sem, HE.out, HI.out]) rfl ⟨_, rfl, _, rfl, HB1.out⟩
  | true =>
    have k0 := HK1.out.cell_ 0 (v := .int .i64 s) rfl
    have k1 := HK1.out.cell_ 1 (v := .int .i64 p) rfl
    go_wp2_with fail
    refine (keyValid_any s p w1).mono ?_
    rintro e w2 ⟨rfl, hb2⟩
    clear k0 k1
    have HX2 := Lib.hid (HX1.out.below hb2)
    have HK2 := Lib.hid (HK1.out.below hb2)
    have HB2 := Lib.hid (bT HB1.out hb2)
    clear hb2 HX1 HK1 HB1
    cases hk : kval (s, p) with
    | false =>
      have HE : Hid (fOK t s p = false) := by show _ = _; unfold fOK; rw [htv, hk]; rfl
      have HI : Hid (fpI t s p = 0) := by show _ = _; unfold fpI; rw [if_neg (by rw [HE.out]; decide)]
      go_wp2
      refine bodyPost_ret (v := .tuple #[.int .i64 (fpI t s p), .int .i64 0, .bool (fOK t s p)]) (by simp [results, Tryz.results25, go_sem, HE.out, HI.out]) rfl ⟨_, rfl, _, rfl, HB2.out⟩
    | true =>
      obtain ⟨⟨_, hfl, hb1', hbl⟩, _⟩ := tv_parts htv
      obtain ⟨ch, hch, _⟩ := fnd_chain htv hk
      obtain ⟨hbk, hbe⟩ := bkt_in hk hb1'
      have hcl := (show ch.length ≤ t.fs.length from by
        obtain ⟨x, _, ec⟩ := bch_some hch
        exact chn_len ec)
      have HH := Lib.hid (fun W => post2_of (hash_any s p t.bs.length W hk ⟨by omega, by omega⟩))
      have HC := Lib.hid (fun W (h : TaR W (.slice Ab t.bs.length cb) (.slice Af t.fs.length cf) t) => chain_any (.slice Ab t.bs.length cb) (.slice Af t.fs.length cf) t (bkt t s p) ch W h hbk (by omega) hch)
      have q0 := HX2.out.cell_ 0 (v := .slice Ab t.bs.length cb) rfl
      have q1 := HX2.out.cell_ 1 (v := .slice Af t.fs.length cf) rfl
      have k0 := HK2.out.cell_ 0 (v := .int .i64 s) rfl
      have k1 := HK2.out.cell_ 1 (v := .int .i64 p) rfl
      go_wp2
      go_region_held_law (fun w' => w'.cell? ⟨w.heap.size, 0, none⟩ = some (.slice Ab t.bs.length cb) ∧ w'.cell? ⟨w.heap.size, 1, none⟩ = some (.slice Af t.fs.length cf) ∧ w'.cell? ⟨w.heap.size + 1, 0, none⟩ = some (.int .i64 s) ∧ w'.cell? ⟨w.heap.size + 1, 1, none⟩ = some (.int .i64 p)) (go_keep) (first
        | (go_at_call 75
           refine (HH.out _).mono ?_
           rintro _ w3 ⟨_, rfl, rfl, hb3⟩
           rw [hbe]
           have HB3 := Lib.hid (bT (bD HB2.out) hb3)
           have hx3 := HX2.out.drew.below hb3
           have hk3 := HK2.out.drew.below hb3
           have d0 := hx3.cell_ 0 (v := .slice Ab t.bs.length cb) rfl
           have d1 := hx3.cell_ 1 (v := .slice Af t.fs.length cf) rfl
           have d2 := hk3.cell_ 0 (v := .int .i64 s) rfl
           have d3 := hk3.cell_ 1 (v := .int .i64 p) rfl
           have HX3 := Lib.hid hx3
           have HK3 := Lib.hid hk3
           clear hx3 hk3 hb3)
        | (go_at_call 74
           refine (HC.out _ (HT.out.now HB3.out)).mono ?_
           rintro _ w4 ⟨_, rfl, hsv, hb4⟩
           have HB4 := Lib.hid (bT HB3.out hb4)
           have hx4 := HX3.out.below hb4
           have hk4 := HK3.out.below hb4
           have e0 := hx4.cell_ 0 (v := .slice Ab t.bs.length cb) rfl
           have e1 := hx4.cell_ 1 (v := .slice Af t.fs.length cf) rfl
           have e2 := hk4.cell_ 0 (v := .int .i64 s) rfl
           have e3 := hk4.cell_ 1 (v := .int .i64 p) rfl
           have HX4 := Lib.hid hx4
           have HK4 := Lib.hid hk4
           obtain ⟨Al, cl, rfl, hlc, hlm, hL⟩ := hsv
           have HL := Lib.hid hL
           rw [ints_length] at *
           clear hx4 hk4 hb4 hL d0 d1 d2 d3))
      all_goals
        go_wp2
        clear e0 e1 e2 e3
        go_loopw [27] (fun u wi => ∃ r : Nat, r ≤ ch.length ∧ u = .int .i64 r ∧ Hid (∀ (m j : Nat) (f : Fr), m < r → ch[m]? = some j → t.fs[j]? = some f → ¬ (f.s, f.p) = (s, p)) ∧ Below w4.heap.size w4 wi) (fun u _ => ch.length - (intOf u).toNat)
        case atStart => exact ⟨0, by omega, rfl, (fun m j f h => absurd h (by omega)), bR⟩
        case round =>
          obtain ⟨r, hr, rfl, hacc, hbi⟩ := hrel
          by_cases hlr : r < ch.length
          · obtain ⟨j, ej⟩ : ∃ j, ch[r]? = some j := ⟨_, List.getElem?_eq_getElem hlr⟩
            obtain ⟨f, ef, huf⟩ := bch_mem hch j (List.mem_of_getElem? ej)
            obtain ⟨hjl, _⟩ := List.getElem?_eq_some_iff.1 ef
            obtain ⟨b5, o5, hAl, hb5, y0⟩ := (HL.out.now (Nat.le_refl _) hbi).i1 (ints_get ej)
            obtain ⟨b4, o4, hAf, hb4, x0, x1, x2, x3, x4⟩ := ((HT.out.now (bT HB4.out hbi)).fsl).fr ef
            subst hAl hAf
            have z1 := xcell (w := wr) ((HX4.out.below hbi).cell_ 1 (v := .slice (some ⟨b4, o4, none⟩) t.fs.length cf) rfl) (HX4.out.below hbi).lt
            have z2 := xcell (w := wr) ((HK4.out.below hbi).cell_ 0 (v := .int .i64 s) rfl) (HK4.out.below hbi).lt
            have z3 := xcell (w := wr) ((HK4.out.below hbi).cell_ 1 (v := .int .i64 p) rfl) (HK4.out.below hbi).lt
            have z5 := xcell (w := wr) x1 (by show b4 < _; omega)
            have z6 := xcell (w := wr) x2 (by show b4 < _; omega)
            have hj2 : (j : Int) < (t.fs.length : Int) := by omega
            have he := fun W => eql_key f.s f.p s p W
            have hi1 : ((ints ch).length : Int) = (ch.length : Int) := by rw [ints_length]
            cases hq1 : keq f.s f.p s p with
            | true =>
              rw [hq1] at he
              have hfn := chain_some htv hk hch ej ef (keq_iff.1 hq1)
              have HE : Hid (fOK t s p = true) := by show _ = _; unfold fOK; rw [htv, hk, hfn]; simp
              have HI : Hid (fpI t s p = (j : Int)) := by show _ = _; unfold fpI; rw [if_pos HE.out, hfn]
              clear ej ef huf x0 x1 x2 x3 x4 hfn
              go_wp2
              refine wp_region_ext (by kernel_rfl) (by kernel_rfl) ?_
              repeat (go_big_quiet_step (fail))
              refine wpQuiet_nil ?_
              intro _ hw'
              obtain ⟨⟨wq, hq⟩, hw''⟩ := hw'
              subst hw''
              try dsimp only
              go_wp2
              refine bodyPost_ret (v := .tuple #[.int .i64 (fpI t s p), .int .i64 ((r : Int) + 1), .bool (fOK t s p)]) (by simp [results, Tryz.results25, go_sem, HE.out, HI.out]) rfl ⟨_, rfl, _, rfl, bT HB4.out (bT hbi hq)⟩
            | false =>
              rw [hq1] at he
              have HACC : Hid (∀ (m j : Nat) (f : Fr), m < r + 1 → ch[m]? = some j → t.fs[j]? = some f → ¬ (f.s, f.p) = (s, p)) := fun m j' f' hm e1 e2 => by
                rcases Nat.lt_or_ge m r with h | h
                · exact hacc.out m j' f' h e1 e2
                · obtain rfl : m = r := by omega
                  rw [ej] at e1
                  injection e1 with e1
                  subst e1
                  rw [ef] at e2
                  injection e2 with e2
                  subst e2
                  exact keq_no hq1
              clear ej ef huf x0 x1 x2 x3 x4
              go_wp2
              refine wp_region_ext (by kernel_rfl) (by kernel_rfl) ?_
              repeat (go_big_quiet_step (fail))
              refine wpQuiet_nil ?_
              intro _ hw'
              obtain ⟨⟨wq, hq⟩, hw''⟩ := hw'
              subst hw''
              try dsimp only
              go_wp2
              go_roundw
              case rel => exact ⟨r + 1, by omega, by go_num, HACC, bT hbi hq⟩
              case measure => simp [intOf]; omega
          · obtain rfl : r = ch.length := by omega
            have hfn : fndI t.fs s p = -1 := chain_none htv hk hch (fun m j f e1 e2 => hacc.out m j f (List.getElem?_eq_some_iff.1 e1).1 e1 e2)
            have HE : Hid (fOK t s p = false) := by show _ = _; unfold fOK; rw [hfn]; simp
            have HI : Hid (fpI t s p = 0) := by show _ = _; unfold fpI; rw [if_neg (by rw [HE.out]; decide)]
            clear hfn
            go_wp2
            refine bodyPost_ret (v := .tuple #[.int .i64 (fpI t s p), .int .i64 (ch.length : Int), .bool (fOK t s p)]) (by simp [results, Tryz.results25, go_sem, HE.out, HI.out]) rfl ⟨_, rfl, _, rfl, bT HB4.out hbi⟩
end Go.Proofs.YtnaagdmaggdbmaaGreatDoor
namespace Go.Proofs.YtnaagdmaggdbmaaGreatDoor.lTakeOne
open Go.RowKit
set_option linter.unusedVariables false
set_option linter.unusedSimpArgs false
set_option maxRecDepth 1000000
def tkA (t : Tab) (s p : Int) : Nat → Bool
 | 0 => true
 | k + 1 => tkA t s p k && fOK t s (p + k)
theorem tkA_iff {t : Tab} {s p : Int} : ∀ n : Nat, tkA t s p n = true ↔ ∀ k, k < n → fOK t s (p + (k : Nat)) = true
  | 0 => ⟨fun _ k hk => by omega, fun _ => rfl⟩
  | n + 1 => by
    unfold tkA
    rw [Bool.and_eq_true, tkA_iff n]
    refine ⟨fun ⟨h1, h2⟩ k hk => ?_, fun h => ⟨fun k hk => h k (by omega), h n (by omega)⟩⟩
    rcases Nat.lt_or_ge k n with h3 | h3
    · exact h1 k h3
    · obtain rfl : k = n := by omega
      exact h2
theorem tk_all {m : Ma} {s p : Int} {n : Nat} {O : Bool} (hO : (rgO (fun m' k => takO m' s (p + k)) (fun m' k => takV m' s (p + k)) m n).isSome = O) (hm : mav m = true) (h1 : 1 ≤ n) (h2 : n ≤ 16) : tkA m.t s p n = O := by
 rw [rgO_yes hm h1 h2] at hO
 refine bool_iff ?_
 rw [← hO, (tak_all n).1, tkA_iff]
 exact ⟨fun h k hk => takO_iff.2 ⟨hm, h k hk⟩, fun h k hk => (takO_iff.1 (h k hk)).2⟩
set_option maxHeartbeats 4000000 in
theorem walk (a0 : Option Addr) (len0 cap0 : Nat) (z0 : List Int) (w : World) (w0 : IsRow .u8 w a0 len0 cap0 z0) (hfree : Free w) :
  Calls Tryz.prog 6 #[.slice a0 len0 cap0] w fun e w' => e = .returned (.bool true) ∧ Below w.heap.size w w' := by
 by_cases hbig : 1048576 < len0
 ·go_enter Tryz.func6, Tryz.ntmps6
  go_wp2
  go_ret
  exact ⟨rfl, by repeat first | exact bR | refine bA ?_⟩
 have hcap := row_cap w0
 have hby := Lib.hid (row_bytes w0)
 have HF := Lib.hid hfree
 clear w0 hfree
 go_enter Tryz.func6, Tryz.ntmps6
 go_wp2_with fail
 refine (DrawTakeRange_any a0 len0 cap0 w hby.out hcap (by omega)).mono ?_
 rintro e w1 ⟨_, rfl, m, v1, v2, v3, v4, s, p, c, rfl, hM, hz, hss, hsp, hsc, hb1⟩
 obtain ⟨A1, c1, rfl, _⟩ := hM.t.b
 obtain ⟨A2, c2, rfl, _⟩ := hM.t.f
 obtain ⟨A3, c3, rfl, _⟩ := hM.l
 obtain ⟨A4, c4, rfl, _⟩ := hM.o
 have hx := (Own.new_ w1 34 #[.slice A1 m.t.bs.length c1, .slice A2 m.t.fs.length c2, .slice A3 m.c.ls.length c3, .int .i64 m.c.hand, .int .i64 m.g.count, .int .i64 m.g.next, .int .i64 m.g.round, .slice A4 m.g.os.length c4, .int .i64 m.sp]).alloc (o := .cells #[.int .i64 s, .int .i64 p] 36)
 have hk := ownAt (W := w1.alloc (.cells #[.slice A1 m.t.bs.length c1, .slice A2 m.t.fs.length c2, .slice A3 m.c.ls.length c3, .int .i64 m.c.hand, .int .i64 m.g.count, .int .i64 m.g.next, .int .i64 m.g.round, .slice A4 m.g.os.length c4, .int .i64 m.sp] 34)) (g := w1.heap.size + 1) (t := 36) (cs := #[.int .i64 s, .int .i64 p]) (by simp)
 have hb2 : Below w1.heap.size w1 ((w1.alloc (.cells #[.slice A1 m.t.bs.length c1, .slice A2 m.t.fs.length c2, .slice A3 m.c.ls.length c3, .int .i64 m.c.hand, .int .i64 m.g.count, .int .i64 m.g.next, .int .i64 m.g.round, .slice A4 m.g.os.length c4, .int .i64 m.sp] 34)).alloc (.cells #[.int .i64 s, .int .i64 p] 36)) := bA (bA bR)
 have hs2 : ((w1.alloc (.cells #[.slice A1 m.t.bs.length c1, .slice A2 m.t.fs.length c2, .slice A3 m.c.ls.length c3, .int .i64 m.c.hand, .int .i64 m.g.count, .int .i64 m.g.next, .int .i64 m.g.round, .slice A4 m.g.os.length c4, .int .i64 m.sp] 34)).alloc (.cells #[.int .i64 s, .int .i64 p] 36)).heap.size = w1.heap.size + 2 := by simp
 generalize hW2 : (w1.alloc (.cells #[.slice A1 m.t.bs.length c1, .slice A2 m.t.fs.length c2, .slice A3 m.c.ls.length c3, .int .i64 m.c.hand, .int .i64 m.g.count, .int .i64 m.g.next, .int .i64 m.g.round, .slice A4 m.g.os.length c4, .int .i64 m.sp] 34)).alloc (.cells #[.int .i64 s, .int .i64 p] 36) = w2 at hx hk hb2 hs2
 have HM := Lib.hid (hM.now hb2)
 have HX := Lib.hid hx
 have HK := Lib.hid hk
 have HB := Lib.hid (bT hb1 hb2)
 have hs1 := hb1.size
 clear hM hx hk hb1 hb2
 generalize hmb : w1.heap.size = mb at *
 obtain ⟨V, hV⟩ : ∃ V, rgV (fun m' k => takO m' s (p + k)) (fun m' k => takV m' s (p + k)) m c = V := ⟨_, rfl⟩
 obtain ⟨O, hO⟩ : ∃ O, (rgO (fun m' k => takO m' s (p + k)) (fun m' k => takV m' s (p + k)) m c).isSome = O := ⟨_, rfl⟩
 have KI : Hid (∀ W, Below w2.heap.size w2 W → Calls Tryz.prog 23 #[.agg #[.slice A1 m.t.bs.length c1, .slice A2 m.t.fs.length c2, .slice A3 m.c.ls.length c3, .int .i64 m.c.hand, .int .i64 m.g.count, .int .i64 m.g.next, .int .i64 m.g.round, .slice A4 m.g.os.length c4, .int .i64 m.sp], .agg #[.int .i64 s, .int .i64 p], .int .i64 c] W (Post2 fun v w' => ∃ v1 v2 v3 v4, v = .tuple #[.agg #[v1, v2, v3, .int .i64 V.c.hand, .int .i64 V.g.count, .int .i64 V.g.next, .int .i64 V.g.round, v4, .int .i64 V.sp], .bool O] ∧ MaM W.heap.size w' v1 v2 v3 v4 V ∧ Below W.heap.size W w')) := by
  intro W hb
  have hMr := (HM.out.now hb).r
  have hFr := HF.out.now (bT HB.out hb)
  subst hV hO
  exact TakeRange_any _ _ _ _ m s p c W hMr hFr
 have KS : Hid (∀ W, Below w2.heap.size w2 W → Calls Tryz.prog 24 #[.agg #[.slice A1 m.t.bs.length c1, .slice A2 m.t.fs.length c2, .slice A3 m.c.ls.length c3, .int .i64 m.c.hand, .int .i64 m.g.count, .int .i64 m.g.next, .int .i64 m.g.round, .slice A4 m.g.os.length c4, .int .i64 m.sp], .agg #[.int .i64 s, .int .i64 p], .int .i64 c] W (Post2 fun v w' => ∃ v1 v2 v3 v4, v = .tuple #[.agg #[v1, v2, v3, .int .i64 V.c.hand, .int .i64 V.g.count, .int .i64 V.g.next, .int .i64 V.g.round, v4, .int .i64 V.sp], .bool O] ∧ MaM W.heap.size w' v1 v2 v3 v4 V ∧ Below W.heap.size W w')) := by
  intro W hb
  have hMr := (HM.out.now hb).r
  subst hV hO
  exact sTakeRange_any _ _ _ _ m s p c W hMr (by have := hsp.1; have := hsp.2; omega)
 obtain ⟨p0a, p1a, p2a, p3a, p4a, p5a, p6a, p7a, p8a⟩ := cells9 HX.out
 have y0a := HK.out.cell_ 0 (v := .int .i64 s) rfl
 have y1a := HK.out.cell_ 1 (v := .int .i64 p) rfl
 go_wp2_with fail
 try rw [hW2]
 refine (KI.out w2 bR).mono ?_
 rintro e w3 ⟨_, rfl, u1, u2, u3, u4, rfl, hM3, hb3⟩
 clear hW2 KI p0a p1a p2a p3a p4a p5a p6a p7a p8a y0a y1a
 obtain ⟨B1, d1, rfl, _⟩ := hM3.t.b
 obtain ⟨B2, d2, rfl, _⟩ := hM3.t.f
 obtain ⟨B3, d3, rfl, _⟩ := hM3.l
 obtain ⟨B4, d4, rfl, _⟩ := hM3.o
 have hy := Own.new_ w3 34 #[.slice B1 V.t.bs.length d1, .slice B2 V.t.fs.length d2, .slice B3 V.c.ls.length d3, .int .i64 V.c.hand, .int .i64 V.g.count, .int .i64 V.g.next, .int .i64 V.g.round, .slice B4 V.g.os.length d4, .int .i64 V.sp]
 have hb4 : Below w3.heap.size w3 (w3.alloc (.cells #[.slice B1 V.t.bs.length d1, .slice B2 V.t.fs.length d2, .slice B3 V.c.ls.length d3, .int .i64 V.c.hand, .int .i64 V.g.count, .int .i64 V.g.next, .int .i64 V.g.round, .slice B4 V.g.os.length d4, .int .i64 V.sp] 34)) := bA bR
 generalize hW4 : w3.alloc (.cells #[.slice B1 V.t.bs.length d1, .slice B2 V.t.fs.length d2, .slice B3 V.c.ls.length d3, .int .i64 V.c.hand, .int .i64 V.g.count, .int .i64 V.g.next, .int .i64 V.g.round, .slice B4 V.g.os.length d4, .int .i64 V.sp] 34) = w4 at hy hb4
 have hbx := bT hb3 hb4
 try replace HM := Lib.hid (HM.out.now hbx)
 try replace HX := Lib.hid (HX.out.below hbx)
 try replace HK := Lib.hid (HK.out.below hbx)
 try replace HV := Lib.hid (HV.out.now hbx)
 try replace HY := Lib.hid (HY.out.below hbx)
 try replace HU := Lib.hid (HU.out.now hbx)
 try replace HZ := Lib.hid (HZ.out.below hbx)
 try replace HL := Lib.hid (HL.out.now hbx)
 try replace HE := Lib.hid (HE.out.now hbx)
 replace HB := Lib.hid (bT HB.out hbx)
 have HV := Lib.hid (hM3.now hb4)
 have HY := Lib.hid hy
 have hs3 := hb3.size
 clear hM3 hy hb4
 obtain ⟨p0a, p1a, p2a, p3a, p4a, p5a, p6a, p7a, p8a⟩ := cells9 HX.out
 have y0a := HK.out.cell_ 0 (v := .int .i64 s) rfl
 have y1a := HK.out.cell_ 1 (v := .int .i64 p) rfl
 go_wp2_with fail
 try rw [hW4]
 refine (KS.out w4 hbx).mono ?_
 rintro e w5 ⟨_, rfl, u1, u2, u3, u4, rfl, hM5, hb5⟩
 clear hbx
 clear hW4 KS hb3 p0a p1a p2a p3a p4a p5a p6a p7a p8a y0a y1a
 obtain ⟨C1, e1, rfl, _⟩ := hM5.t.b
 obtain ⟨C2, e2, rfl, _⟩ := hM5.t.f
 obtain ⟨C3, e3, rfl, _⟩ := hM5.l
 obtain ⟨C4, e4, rfl, _⟩ := hM5.o
 have hy := Own.new_ w5 34 #[.slice C1 V.t.bs.length e1, .slice C2 V.t.fs.length e2, .slice C3 V.c.ls.length e3, .int .i64 V.c.hand, .int .i64 V.g.count, .int .i64 V.g.next, .int .i64 V.g.round, .slice C4 V.g.os.length e4, .int .i64 V.sp]
 have hb6 : Below w5.heap.size w5 (w5.alloc (.cells #[.slice C1 V.t.bs.length e1, .slice C2 V.t.fs.length e2, .slice C3 V.c.ls.length e3, .int .i64 V.c.hand, .int .i64 V.g.count, .int .i64 V.g.next, .int .i64 V.g.round, .slice C4 V.g.os.length e4, .int .i64 V.sp] 34)) := bA bR
 generalize hW6 : w5.alloc (.cells #[.slice C1 V.t.bs.length e1, .slice C2 V.t.fs.length e2, .slice C3 V.c.ls.length e3, .int .i64 V.c.hand, .int .i64 V.g.count, .int .i64 V.g.next, .int .i64 V.g.round, .slice C4 V.g.os.length e4, .int .i64 V.sp] 34) = w6 at hy hb6
 have hbx := bT hb5 hb6
 try replace HM := Lib.hid (HM.out.now hbx)
 try replace HX := Lib.hid (HX.out.below hbx)
 try replace HK := Lib.hid (HK.out.below hbx)
 try replace HV := Lib.hid (HV.out.now hbx)
 try replace HY := Lib.hid (HY.out.below hbx)
 try replace HU := Lib.hid (HU.out.now hbx)
 try replace HZ := Lib.hid (HZ.out.below hbx)
 try replace HL := Lib.hid (HL.out.now hbx)
 try replace HE := Lib.hid (HE.out.now hbx)
 replace HB := Lib.hid (bT HB.out hbx)
 have HU := Lib.hid (hM5.now hb6)
 have HZ := Lib.hid hy
 have hs5 := hb5.size
 clear hM5 hy hb6
 obtain ⟨p0a, p1a, p2a, p3a, p4a, p5a, p6a, p7a, p8a⟩ := cells9 HY.out
 obtain ⟨p0b, p1b, p2b, p3b, p4b, p5b, p6b, p7b, p8b⟩ := cells9 HZ.out
 clear hb5 hbx
 go_wp2_with fail
 try rw [hW6]
 refine (MachineSame_same _ _ _ _ _ _ _ _ V w6 HV.out.r HU.out.r).mono ?_
 rintro e w7 ⟨rfl, hb7⟩
 clear hW6 p0a p1a p2a p3a p4a p5a p6a p7a p8a
 clear p0b p1b p2b p3b p4b p5b p6b p7b p8b
 try replace HM := Lib.hid (HM.out.now hb7)
 try replace HX := Lib.hid (HX.out.below hb7)
 try replace HK := Lib.hid (HK.out.below hb7)
 try replace HV := Lib.hid (HV.out.now hb7)
 try replace HY := Lib.hid (HY.out.below hb7)
 try replace HU := Lib.hid (HU.out.now hb7)
 try replace HZ := Lib.hid (HZ.out.below hb7)
 try replace HL := Lib.hid (HL.out.now hb7)
 try replace HE := Lib.hid (HE.out.now hb7)
 replace HB := Lib.hid (bT HB.out hb7)
 clear hb7
 obtain ⟨p0c, p1c, p2c, p3c, p4c, p5c, p6c, p7c, p8c⟩ := cells9 HX.out
 cases O with
 | false =>
  go_wp2_with fail
  refine (MachineValid_any _ _ _ _ m _ HM.out.r (HF.out.now HB.out)).mono ?_
  rintro e wm ⟨rfl, hbm⟩
  try replace HM := Lib.hid (HM.out.now hbm)
  try replace HX := Lib.hid (HX.out.below hbm)
  try replace HK := Lib.hid (HK.out.below hbm)
  try replace HV := Lib.hid (HV.out.now hbm)
  try replace HY := Lib.hid (HY.out.below hbm)
  try replace HU := Lib.hid (HU.out.now hbm)
  try replace HZ := Lib.hid (HZ.out.below hbm)
  try replace HL := Lib.hid (HL.out.now hbm)
  try replace HE := Lib.hid (HE.out.now hbm)
  replace HB := Lib.hid (bT HB.out hbm)
  clear hbm
  clear p0c p1c p2c p3c p4c p5c p6c p7c p8c
  cases hmv : mav m with
  | false =>
   obtain ⟨p0a, p1a, p2a, p3a, p4a, p5a, p6a, p7a, p8a⟩ := cells9 HY.out
   obtain ⟨p0b, p1b, p2b, p3b, p4b, p5b, p6b, p7b, p8b⟩ := cells9 HZ.out
   go_wp2_with fail
   refine (MachineSame_same _ _ _ _ _ _ _ _ V _ HV.out.r HU.out.r).mono ?_
   rintro e w8 ⟨rfl, hb8⟩
   replace HB := Lib.hid (bT HB.out hb8)
   go_wp2
   go_ret
   exact ⟨rfl, HB.out⟩
  | true =>
   by_cases h1 : c < 1
   ·skip
    obtain ⟨p0a, p1a, p2a, p3a, p4a, p5a, p6a, p7a, p8a⟩ := cells9 HY.out
    obtain ⟨p0b, p1b, p2b, p3b, p4b, p5b, p6b, p7b, p8b⟩ := cells9 HZ.out
    go_wp2_with fail
    refine (MachineSame_same _ _ _ _ _ _ _ _ V _ HV.out.r HU.out.r).mono ?_
    rintro e w8 ⟨rfl, hb8⟩
    replace HB := Lib.hid (bT HB.out hb8)
    go_wp2
    go_ret
    exact ⟨rfl, HB.out⟩
   by_cases h2 : 16 < c
   ·skip
    obtain ⟨p0a, p1a, p2a, p3a, p4a, p5a, p6a, p7a, p8a⟩ := cells9 HY.out
    obtain ⟨p0b, p1b, p2b, p3b, p4b, p5b, p6b, p7b, p8b⟩ := cells9 HZ.out
    go_wp2_with fail
    refine (MachineSame_same _ _ _ _ _ _ _ _ V _ HV.out.r HU.out.r).mono ?_
    rintro e w8 ⟨rfl, hb8⟩
    replace HB := Lib.hid (bT HB.out hb8)
    go_wp2
    go_ret
    exact ⟨rfl, HB.out⟩
   obtain ⟨n, rfl⟩ := Int.eq_ofNat_of_zero_le (show 0 ≤ c by omega)
   have HO := Lib.hid (tk_all hO hmv (show 1 ≤ n by omega) (show n ≤ 16 by omega))
   have hp1 := hsp.1
   have hp2 := hsp.2
   clear hV hO
   go_wp2
   go_loopw [10, 11] (fun a u wr => ∃ k : Nat, k ≤ n ∧ a = .bool (tkA m.t s p k) ∧ u = .int .i64 k ∧ Below wm.heap.size wm wr) (fun _ u _ => n - (intOf u).toNat)
   case atStart => exact ⟨0, by omega, rfl, rfl, bR⟩
   case round =>
    obtain ⟨k, hk, rfl, rfl, hbr⟩ := hrel
    try replace HM := Lib.hid (HM.out.now hbr)
    try replace HX := Lib.hid (HX.out.below hbr)
    try replace HK := Lib.hid (HK.out.below hbr)
    try replace HV := Lib.hid (HV.out.now hbr)
    try replace HY := Lib.hid (HY.out.below hbr)
    try replace HU := Lib.hid (HU.out.now hbr)
    try replace HZ := Lib.hid (HZ.out.below hbr)
    try replace HL := Lib.hid (HL.out.now hbr)
    try replace HE := Lib.hid (HE.out.now hbr)
    replace HB := Lib.hid (bT HB.out hbr)
    by_cases hlt : k < n
    ·have hki : (k : Int) < (n : Int) := by omega
     have hwp : IntKind.i64.wrap (p + (k : Int)) = p + k := IntWalk.i64_in _ (by omega)
     have x0 := HX.out.cell_ 0 (v := .slice A1 m.t.bs.length c1) rfl
     have x1 := HX.out.cell_ 1 (v := .slice A2 m.t.fs.length c2) rfl
     have q0 := HK.out.cell_ 0 (v := .int .i64 s) rfl
     have q1 := HK.out.cell_ 1 (v := .int .i64 p) rfl
     go_wp2_with fail
     refine (FindPage_any _ _ m.t s (p + (k : Int)) wr HM.out.r.t (HF.out.now HB.out)).mono ?_
     rintro e w9 ⟨_, rfl, nst, rfl, hb9⟩
     clear x0 x1 q0 q1
     have hbr9 := bT hbr hb9
     cases ha : tkA m.t s p k with
     | false =>
      have HA : Hid (tkA m.t s p (k + 1) = false) := by show _ = _; unfold tkA; rw [ha]; rfl
      go_wp2
      go_roundw
      case rel => exact ⟨k + 1, by omega, by rw [HA.out], by simp, hbr9⟩
      case measure => simp [intOf]; omega
     | true =>
      have HA : Hid (tkA m.t s p (k + 1) = fOK m.t s (p + (k : Int))) := by show _ = _; unfold tkA; rw [ha]; rfl
      generalize fOK m.t s (p + (k : Int)) = fo at HA ⊢
      go_wp2
      go_roundw
      case rel => exact ⟨k + 1, by omega, by rw [HA.out], by simp, hbr9⟩
      case measure => simp [intOf]; omega
    ·obtain rfl : k = n := by omega
     have hki : decide ((k : Int) < (k : Int)) = false := by simp
     rw [HO.out]
     go_wp2
     go_ret
     exact ⟨rfl, HB.out⟩
 | true =>
  go_wp2_with fail
  refine (MachineValid_any _ _ _ _ m _ HM.out.r (HF.out.now HB.out)).mono ?_
  rintro e wm ⟨rfl, hbm⟩
  try replace HM := Lib.hid (HM.out.now hbm)
  try replace HX := Lib.hid (HX.out.below hbm)
  try replace HK := Lib.hid (HK.out.below hbm)
  try replace HV := Lib.hid (HV.out.now hbm)
  try replace HY := Lib.hid (HY.out.below hbm)
  try replace HU := Lib.hid (HU.out.now hbm)
  try replace HZ := Lib.hid (HZ.out.below hbm)
  try replace HL := Lib.hid (HL.out.now hbm)
  try replace HE := Lib.hid (HE.out.now hbm)
  replace HB := Lib.hid (bT HB.out hbm)
  clear hbm
  clear p0c p1c p2c p3c p4c p5c p6c p7c p8c
  cases hmv : mav m with
  | false =>
   obtain ⟨p0a, p1a, p2a, p3a, p4a, p5a, p6a, p7a, p8a⟩ := cells9 HY.out
   obtain ⟨p0b, p1b, p2b, p3b, p4b, p5b, p6b, p7b, p8b⟩ := cells9 HZ.out
   go_wp2_with fail
   refine (MachineSame_same _ _ _ _ _ _ _ _ V _ HV.out.r HU.out.r).mono ?_
   rintro e w8 ⟨rfl, hb8⟩
   replace HB := Lib.hid (bT HB.out hb8)
   go_wp2
   go_ret
   exact ⟨rfl, HB.out⟩
  | true =>
   by_cases h1 : c < 1
   ·skip
    obtain ⟨p0a, p1a, p2a, p3a, p4a, p5a, p6a, p7a, p8a⟩ := cells9 HY.out
    obtain ⟨p0b, p1b, p2b, p3b, p4b, p5b, p6b, p7b, p8b⟩ := cells9 HZ.out
    go_wp2_with fail
    refine (MachineSame_same _ _ _ _ _ _ _ _ V _ HV.out.r HU.out.r).mono ?_
    rintro e w8 ⟨rfl, hb8⟩
    replace HB := Lib.hid (bT HB.out hb8)
    go_wp2
    go_ret
    exact ⟨rfl, HB.out⟩
   by_cases h2 : 16 < c
   ·skip
    obtain ⟨p0a, p1a, p2a, p3a, p4a, p5a, p6a, p7a, p8a⟩ := cells9 HY.out
    obtain ⟨p0b, p1b, p2b, p3b, p4b, p5b, p6b, p7b, p8b⟩ := cells9 HZ.out
    go_wp2_with fail
    refine (MachineSame_same _ _ _ _ _ _ _ _ V _ HV.out.r HU.out.r).mono ?_
    rintro e w8 ⟨rfl, hb8⟩
    replace HB := Lib.hid (bT HB.out hb8)
    go_wp2
    go_ret
    exact ⟨rfl, HB.out⟩
   obtain ⟨n, rfl⟩ := Int.eq_ofNat_of_zero_le (show 0 ≤ c by omega)
   have HO := Lib.hid (tk_all hO hmv (show 1 ≤ n by omega) (show n ≤ 16 by omega))
   have hp1 := hsp.1
   have hp2 := hsp.2
   clear hV hO
   go_wp2
   go_loopw [10, 11] (fun a u wr => ∃ k : Nat, k ≤ n ∧ a = .bool (tkA m.t s p k) ∧ u = .int .i64 k ∧ Below wm.heap.size wm wr) (fun _ u _ => n - (intOf u).toNat)
   case atStart => exact ⟨0, by omega, rfl, rfl, bR⟩
   case round =>
    obtain ⟨k, hk, rfl, rfl, hbr⟩ := hrel
    try replace HM := Lib.hid (HM.out.now hbr)
    try replace HX := Lib.hid (HX.out.below hbr)
    try replace HK := Lib.hid (HK.out.below hbr)
    try replace HV := Lib.hid (HV.out.now hbr)
    try replace HY := Lib.hid (HY.out.below hbr)
    try replace HU := Lib.hid (HU.out.now hbr)
    try replace HZ := Lib.hid (HZ.out.below hbr)
    try replace HL := Lib.hid (HL.out.now hbr)
    try replace HE := Lib.hid (HE.out.now hbr)
    replace HB := Lib.hid (bT HB.out hbr)
    by_cases hlt : k < n
    ·have hki : (k : Int) < (n : Int) := by omega
     have hwp : IntKind.i64.wrap (p + (k : Int)) = p + k := IntWalk.i64_in _ (by omega)
     have x0 := HX.out.cell_ 0 (v := .slice A1 m.t.bs.length c1) rfl
     have x1 := HX.out.cell_ 1 (v := .slice A2 m.t.fs.length c2) rfl
     have q0 := HK.out.cell_ 0 (v := .int .i64 s) rfl
     have q1 := HK.out.cell_ 1 (v := .int .i64 p) rfl
     go_wp2_with fail
     refine (FindPage_any _ _ m.t s (p + (k : Int)) wr HM.out.r.t (HF.out.now HB.out)).mono ?_
     rintro e w9 ⟨_, rfl, nst, rfl, hb9⟩
     clear x0 x1 q0 q1
     have hbr9 := bT hbr hb9
     cases ha : tkA m.t s p k with
     | false =>
      have HA : Hid (tkA m.t s p (k + 1) = false) := by show _ = _; unfold tkA; rw [ha]; rfl
      go_wp2
      go_roundw
      case rel => exact ⟨k + 1, by omega, by rw [HA.out], by simp, hbr9⟩
      case measure => simp [intOf]; omega
     | true =>
      have HA : Hid (tkA m.t s p (k + 1) = fOK m.t s (p + (k : Int))) := by show _ = _; unfold tkA; rw [ha]; rfl
      generalize fOK m.t s (p + (k : Int)) = fo at HA ⊢
      go_wp2
      go_roundw
      case rel => exact ⟨k + 1, by omega, by rw [HA.out], by simp, hbr9⟩
      case measure => simp [intOf]; omega
    ·obtain rfl : k = n := by omega
     have hki : decide ((k : Int) < (k : Int)) = false := by simp
     rw [HO.out]
     go_wp2
     go_ret
     exact ⟨rfl, HB.out⟩
end Go.Proofs.YtnaagdmaggdbmaaGreatDoor.lTakeOne
