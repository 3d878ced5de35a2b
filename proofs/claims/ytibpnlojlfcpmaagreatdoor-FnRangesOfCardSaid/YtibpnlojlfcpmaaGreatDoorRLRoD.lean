/- A part of the proofs of this seat: LRo, LRoD, LRoE. -/
import Derived.ChangeSame
import Derived.Deep.RegionHeldLaw
import Derived.Deep.CutRange
import Derived.Test.YtibpnlojlfcpmaaGreatDoorRKr
set_option linter.unusedVariables false
set_option linter.unusedSimpArgs false
set_option maxRecDepth 1000000
namespace Go.Proofs.YtibpnlojlfcpmaaGreatDoor.lRangesOf
open Go.ChangeShapes Go.WideShapes Go.ChangeAt Go.RowKit Go.Joins
set_option maxRecDepth 100000 in
theorem closed : joinedFacts Tryz.prog 4 Tryz.f4 Rows.fnRangesOfSpec Rows.fnRangesOfRow = true := by
 unfold joinedFacts
 rw [may_enter, lifts_final, make_cut]
 refine Eq.trans ?_ (Eq.refl _)
 kernel_rfl
end Go.Proofs.YtibpnlojlfcpmaaGreatDoor.lRangesOf
namespace Go.Proofs.YtibpnlojlfcpmaaGreatDoor.lRangesOf
open Go.RowKit
theorem rsum_take {a : List Rng} {k : Nat} {x : Rng} (h : a[k]? = some x) : rsum (a.take (k + 1)) = rsum (a.take k) + x.2.1 := by
 rw [List.take_add_one, h, rsum_app]
 simp [rsum]
theorem rsum_le {a : List Rng} (h : ∀ x ∈ a, 1 ≤ x.2.1 ∧ 0 ≤ x.1 ∧ x.1 + x.2.1 ≤ 256) : 0 ≤ rsum a ∧ rsum a ≤ 256 * (a.length : Int) := by
 induction a with
 | nil => simp [rsum]
 | cons x l ih =>
  have h1 := ih (fun y hy => h y (by simp [hy]))
  have h2 := h x (by simp)
  simp only [rsum, List.length_cons]
  omega
theorem pgs_take {ks : List Key} {s : Int} {k : Nat} {x : Key} (h : ks[k]? = some x) : (pgs s (ks.take (k + 1))).length = (pgs s (ks.take k)).length + (if x.1 = s then 1 else 0) := by
 rw [List.take_add_one, h]
 show (pgs s (ks.take k ++ [x])).length = _
 rw [pgs_snoc, List.length_append]
 split <;> rfl
theorem pgs_le (s : Int) (ks : List Key) : (pgs s ks).length ≤ ks.length := by
 unfold pgs
 exact List.length_filterMap_le _ _
set_option maxHeartbeats 4000000 in
theorem walk (a0 : Option Addr) (len0 cap0 : Nat) (z0 : List Int) (w : World) (w0 : IsRow .u8 w a0 len0 cap0 z0) (hfree : Free w) :
  Calls Tryz.prog 4 #[.slice a0 len0 cap0] w fun e w' => e = .returned (.bool true) ∧ Below w.heap.size w w' := by
 by_cases hbig : 1048576 < len0
 ·go_enter Tryz.func4, Tryz.ntmps4
  go_wp2
  go_ret
  exact ⟨rfl, by repeat first | exact bR | refine bA ?_⟩
 have hcap := row_cap w0
 have hby := Hd (row_bytes w0)
 have HF := Hd hfree
 clear w0 hfree
 go_enter Tryz.func4, Tryz.ntmps4
 go_wp2_with fail
 refine (DrawRangesOf_any a0 len0 cap0 w hby.out hcap (by omega)).mono ?_
 rintro e w1 ⟨_, rfl, m, v1, v2, v3, v4, s, rfl, hM, hz, hss, hb1⟩
 obtain ⟨A1, c1, rfl, _⟩ := hM.t.b
 obtain ⟨A2, c2, rfl, _⟩ := hM.t.f
 obtain ⟨A3, c3, rfl, _⟩ := hM.l
 obtain ⟨A4, c4, rfl, _⟩ := hM.o
 obtain ⟨w2, hW2, hx, hb2, _⟩ := box1 w1 #[.slice A1 m.t.bs.length c1, .slice A2 m.t.fs.length c2, .slice A3 m.c.ls.length c3, .int .i64 m.c.hand, .int .i64 m.g.count, .int .i64 m.g.next, .int .i64 m.g.round, .slice A4 m.g.os.length c4, .int .i64 m.sp] 48
 have HM := Hd (hM.now hb2)
 have HX := Hd hx
 have HB := Hd (bT hb1 hb2)
 clear hM hx hb1 hb2
 generalize hmb : w1.heap.size = mb at *
 go_upto_region 4 with fail
 try rw [hW2]
 clear hW2
 obtain ⟨p0a, p1a, p2a, p3a, p4a, p5a, p6a, p7a, p8a⟩ := cells9 HX.out
 go_wp2_with fail
 refine (RangesOf_any _ _ _ _ m s w2 HM.out.r (HF.out.now HB.out)).mono ?_
 rintro e w3 ⟨_, rfl, pl, rfl, hr3, hb3⟩
 clear p0a p1a p2a p3a p4a p5a p6a p7a p8a
 replace HM := Hd (HM.out.now hb3)
 replace HX := Hd (HX.out.below hb3)
 replace HB := Hd (bT HB.out hb3)
 have HR := Hd hr3
 clear hr3 hb3
 obtain ⟨p0a, p1a, p2a, p3a, p4a, p5a, p6a, p7a, p8a⟩ := cells9 HX.out
 go_wp2_with fail
 refine (sRangesOf_any _ _ _ _ m s w3 HM.out.r).mono ?_
 rintro e w5 ⟨_, rfl, pl2, rfl, hr5, hb5⟩
 clear p0a p1a p2a p3a p4a p5a p6a p7a p8a
 replace HM := Hd (HM.out.now hb5)
 replace HX := Hd (HX.out.below hb5)
 replace HB := Hd (bT HB.out hb5)
 replace HR := Hd (HR.out.now hb5)
 have HS := Hd hr5
 clear hr5 hb5
 obtain ⟨O, hO⟩ : ∃ O, rgsO m s = O := ⟨_, rfl⟩
 have hP : O = true → mav m = true ∧ RgI m.t s (kys m.t) (rgsV m s) := fun h => ⟨by have h9 := hO.trans h; unfold rgsO at h9; rw [Bool.and_eq_true] at h9; exact h9.1, rgs_parts (hO.trans h)⟩
 rw [hO]
 generalize rgsV m s = a at *
 obtain ⟨_, A8, c8, rfl, _⟩ := id HR.out
 obtain ⟨_, A9, c9, rfl, _⟩ := id HS.out
 go_wp2_with fail
 refine (ipLists_rs _ _ _ _ _ _ _ a w5 HR.out HS.out).mono ?_
 rintro e w7 ⟨rfl, hb7⟩
 replace HM := Hd (HM.out.now hb7)
 replace HX := Hd (HX.out.below hb7)
 replace HB := Hd (bT HB.out hb7)
 replace HR := Hd (HR.out.now hb7)
 replace HS := Hd (HS.out.now hb7)
 clear hb7
 cases O with
 | false =>
  go_wp2_with fail
  refine (ipLists_rs _ _ _ _ _ _ _ a _ HR.out HS.out).mono ?_
  rintro e w8 ⟨rfl, hb8⟩
  have HBE := Hd (bT HB.out hb8)
  go_wp2
  go_ret
  exact ⟨rfl, HBE.out⟩
 | true =>
  obtain ⟨hmm, P⟩ := hP rfl
  have hkl : (kys m.t).length ≤ 16 := by have := kys_len m.t; have := ((tv_parts (mav_parts hmm).1).1).2.1; omega
  have hal : a.length ≤ 16 := by have := P.len; omega
  have HP := Hd P
  have HMM := Hd hmm
  clear hO hP P hmm HS
  go_wp2
  go_loopw [9, 10] (fun sm u wr => ∃ (k : Nat) (S : Int), k ≤ a.length ∧ u = .int .i64 k ∧ sm = .int .i64 S ∧ Hid (S = rsum (a.take k)) ∧ Below w7.heap.size w7 wr) (fun _ u _ => a.length - (intOf u).toNat)
  case atStart => exact ⟨0, 0, by omega, rfl, rfl, rfl, bR⟩
  case round =>
   obtain ⟨k, S, hk, rfl, rfl, hS, hbr⟩ := hrel
   replace HM := Hd (HM.out.now hbr)
   replace HX := Hd (HX.out.below hbr)
   replace HB := Hd (bT HB.out hbr)
   replace HR := Hd (HR.out.now hbr)
   by_cases hlt : k < a.length
   ·obtain ⟨⟨xp, xc, xr⟩, ex⟩ : ∃ x, a[k]? = some x := ⟨_, List.getElem?_eq_getElem hlt⟩
    obtain ⟨b1, o1, g1, rfl, hbg1, cg1, hog1⟩ := HR.out.at_ ex
    have hki : (k : Int) < (a.length : Int) := by omega
    have hk0 : (0 : Int) ≤ (k : Int) := by omega
    obtain ⟨hp1, hp2, hp3⟩ := HP.out.pos _ (List.mem_of_getElem? ex)
    simp only at hp1 hp2 hp3
    have hx1 : ¬ xc < 1 := by omega
    have hx2 : ¬ xc ≤ 0 := by omega
    have hx3 : 0 < xc := by omega
    have hx4 : decide (xc < 1) = false := decide_eq_false hx1
    have HSN : Hid (S + xc = rsum (a.take (k + 1))) := Hd (by rw [rsum_take ex, hS.out])
    have hle := rsum_le (a := a.take k) (fun x hx => HP.out.pos x (List.mem_of_mem_take hx))
    rw [List.length_take, ← hS.out] at hle
    have hwS : IntKind.i64.wrap (S + xc) = S + xc := IntWalk.i64_in _ (by have := hle.1; have := hle.2; omega)
    have t0 := xcell cg1 hbg1
    have t1 := xcell (hog1.cell_ 0 (v := .int .i64 xp) rfl) hog1.lt
    have t2 := xcell (hog1.cell_ 1 (v := .int .i64 xc) rfl) hog1.lt
    have t3 := xcell (hog1.cell_ 2 (v := .int .i64 xr) rfl) hog1.lt
    have HOG := Hd hog1
    have HCG := Hd cg1
    clear hle hp1 hp2 hp3 hog1 cg1
    by_cases hkz : k = 0
    ·have hk1 : ¬ 0 < k := by omega
     have hk2 : ¬ (0 : Int) < (k : Int) := by omega
     have hk3 : decide ((0 : Int) < (k : Int)) = false := decide_eq_false hk2
     have HKZ := Hd hkz
     clear ex hkz
     go_wp2
     refine wp_region_ext (by kernel_rfl) (by kernel_rfl) ?_
     repeat (go_big_quiet_step (fail))
     refine wpQuiet_nil ?_
     intro _ hw'
     obtain ⟨⟨wq, hq⟩, hw''⟩ := hw'
     subst hw''
     try dsimp only
     have HBQ := Hd (bT hbr hq)
     have f0 := (hq.cell (p := ⟨b1, _, none⟩) hbg1).trans HCG.out
     have hoq := HOG.out.below hq
     have f1 := hoq.cell_ 1 (v := .int .i64 xc) rfl
     clear t0 t1 t2 t3 hoq hq hbr HR HX HM HB
     go_wp2
     go_roundw
     case rel => exact ⟨k + 1, S + xc, by omega, by simp, rfl, HSN.out, HBQ.out⟩
     case measure => simp [intOf]; omega
    ·obtain ⟨j, hkk⟩ : ∃ j, j + 1 = k := ⟨k - 1, by omega⟩
     obtain ⟨⟨yp, yc, yr⟩, ey⟩ : ∃ y, a[j]? = some y := ⟨_, List.getElem?_eq_getElem (by omega)⟩
     obtain ⟨q1, q2⟩ := HP.out.gap j _ _ ey (by rw [hkk]; exact ex)
     obtain ⟨r1, r2, r3⟩ := HP.out.pos _ (List.mem_of_getElem? ey)
     obtain ⟨b2, o2, g2, he2, hbg2, cg2, hog2⟩ := HR.out.at_ ey
     injection he2 with he2
     injection he2 with he2 he3
     subst he2 he3
     simp only at q1 q2 r1 r2 r3
     have hk1 : 0 < k := by omega
     have hk2 : (0 : Int) < (k : Int) := by omega
     have hk3 : IntKind.i64.wrap ((k : Int) - 1) = (j : Int) := by rw [show (k : Int) - 1 = (j : Int) by omega]; exact IntWalk.i64_in _ (by omega)
     have hk4 : (j : Int) < (a.length : Int) := by omega
     have hk5 : (0 : Int) ≤ (j : Int) := by omega
     have hw1 : IntKind.i64.wrap (yp + yc) = yp + yc := IntWalk.i64_in _ (by omega)
     have s0 := xcell cg2 hbg2
     have s1 := xcell (hog2.cell_ 0 (v := .int .i64 yp) rfl) hog2.lt
     have s2 := xcell (hog2.cell_ 1 (v := .int .i64 yc) rfl) hog2.lt
     have s3 := xcell (hog2.cell_ 2 (v := .int .i64 yr) rfl) hog2.lt
     have hc0 : ¬ xp < yp + yc := by omega
     have hc00 : decide (xp < yp + yc) = false := decide_eq_false hc0
     clear ex ey hog2 cg2 q1 r1 r2 r3 hkz
     by_cases hc1 : xp = yp + yc
     ·have hc1b : (xp == yp + yc) = true := by rw [beq_iff_eq]; exact hc1
      have hc2b : (xr == yr) = false := by rw [beq_eq_false_iff_ne]; exact fun h => q2 ⟨hc1.symm, h.symm⟩
      clear q2 hc1 hkk
      go_wp2
      refine wp_region_ext (by kernel_rfl) (by kernel_rfl) ?_
      repeat (go_big_quiet_step (fail))
      refine wpQuiet_nil ?_
      intro _ hw'
      obtain ⟨⟨wq, hq⟩, hw''⟩ := hw'
      subst hw''
      try dsimp only
      clear s0 s1 s2 s3
      have HBQ := Hd (bT hbr hq)
      have f0 := (hq.cell (p := ⟨b1, _, none⟩) hbg1).trans HCG.out
      have hoq := HOG.out.below hq
      have f1 := hoq.cell_ 1 (v := .int .i64 xc) rfl
      clear t0 t1 t2 t3 hoq hq hbr HR HX HM HB
      go_wp2
      go_roundw
      case rel => exact ⟨k + 1, S + xc, by omega, by simp, rfl, HSN.out, HBQ.out⟩
      case measure => simp [intOf]; omega
     ·have hc1b : (xp == yp + yc) = false := by rw [beq_eq_false_iff_ne]; exact hc1
      clear q2 hc1 hkk
      go_wp2
      refine wp_region_ext (by kernel_rfl) (by kernel_rfl) ?_
      repeat (go_big_quiet_step (fail))
      refine wpQuiet_nil ?_
      intro _ hw'
      obtain ⟨⟨wq, hq⟩, hw''⟩ := hw'
      subst hw''
      try dsimp only
      clear s0 s1 s2 s3
      have HBQ := Hd (bT hbr hq)
      have f0 := (hq.cell (p := ⟨b1, _, none⟩) hbg1).trans HCG.out
      have hoq := HOG.out.below hq
      have f1 := hoq.cell_ 1 (v := .int .i64 xc) rfl
      clear t0 t1 t2 t3 hoq hq hbr HR HX HM HB
      go_wp2
      go_roundw
      case rel => exact ⟨k + 1, S + xc, by omega, by simp, rfl, HSN.out, HBQ.out⟩
      case measure => simp [intOf]; omega
   ·obtain rfl : k = a.length := by omega
    have hki : decide ((a.length : Int) < (a.length : Int)) = false := by simp
    have HSE : Hid (S = (pgs s (kys m.t)).length) := Hd (by rw [hS.out, List.take_length]; exact HP.out.sum)
    have x0 := HX.out.cell_ 0 (v := .slice A1 m.t.bs.length c1) rfl
    have x1 := HX.out.cell_ 1 (v := .slice A2 m.t.fs.length c2) rfl
    go_wp2_with fail
    refine (KeysOf_imp _ _ m.t _ HM.out.r.t (HF.out.now HB.out)).mono ?_
    rintro e w9 ⟨_, rfl, K, kc, rfl, hkc, ⟨hks, _⟩, hb9⟩
    have HKS := Hd hks
    have HB9 := Hd (bT HB.out hb9)
    clear x0 x1 hks hb9 hbr HR HX HM
    go_wp2
    go_loopw [12, 13] (fun nn u wr => ∃ k : Nat, k ≤ (kys m.t).length ∧ u = .int .i64 k ∧ nn = .int .i64 ((pgs s ((kys m.t).take k)).length : Int) ∧ Below w9.heap.size w9 wr) (fun _ u _ => (kys m.t).length - (intOf u).toNat)
    case atStart => exact ⟨0, by omega, rfl, rfl, bR⟩
    case round =>
     obtain ⟨k, hk, rfl, rfl, hbk⟩ := hrel
     by_cases hlt : k < (kys m.t).length
     ·obtain ⟨bq, oq, x, y, hKe, hbq2, y0, y1, e1⟩ := (HKS.out.now (Nat.le_refl _) hbk).key2 hlt
      subst hKe
      have hki : (k : Int) < ((kys m.t).length : Int) := by omega
      have hk0 : (0 : Int) ≤ (k : Int) := by omega
      have hpl := pgs_le s ((kys m.t).take k)
      rw [List.length_take] at hpl
      have hpt := pgs_take (s := s) e1
      by_cases hxs : x = s
      ·rw [if_pos hxs] at hpt
       have HPT := Hd hpt
       generalize (pgs s ((kys m.t).take k)).length = q at *
       have hq : q ≤ 16 := by omega
       have hwq : IntKind.i64.wrap ((q : Int) + 1) = ((q + 1 : Nat) : Int) := by rw [show (q : Int) + 1 = ((q + 1 : Nat) : Int) by omega]; exact IntWalk.i64_in _ (by omega)
       have hxb : (x == s) = true := by rw [beq_iff_eq]; exact hxs
       clear hpl hpt e1 y1 hxs
       go_wp2
       go_roundw
       case rel => exact ⟨k + 1, by omega, by simp, by rw [HPT.out]; rfl, hbk⟩
       case measure => simp [intOf]; omega
      ·rw [if_neg hxs] at hpt
       have HPT := Hd hpt
       have hxb : (x == s) = false := by rw [beq_eq_false_iff_ne]; exact hxs
       clear hpl hpt e1 y1 hxs
       go_wp2
       go_roundw
       case rel => exact ⟨k + 1, by omega, by simp, by rw [HPT.out]; rfl, hbk⟩
       case measure => simp [intOf]; omega
     ·obtain rfl : k = (kys m.t).length := by omega
      have hki : decide (((kys m.t).length : Int) < ((kys m.t).length : Int)) = false := by simp
      have hse := HSE.out
      rw [List.take_length, hse]
      clear hse
      go_wp2
      go_ret
      exact ⟨by simp, bT HB9.out hbk⟩
end Go.Proofs.YtibpnlojlfcpmaaGreatDoor.lRangesOf
namespace Go.Proofs.YtibpnlojlfcpmaaGreatDoor.lRangesOf
open Go.ChangeShapes Go.WideShapes Go.ChangeAt Go.RowKit Go.Joins
set_option maxRecDepth 100000 in
theorem lifted (os : Os) (started : os.Started) (H : Type) (enc : TypeId × Value → H) :
  ReturnsInHanded {} Tryz.checked os 4 .any (fun w args => (Rows.fnRangesOfSpec.pre enc Tryz.prog Tryz.f4 Rows.fnRangesOfRow.domain false w args ∧ laidMet Tryz.prog [("loop.example/invertedpages/impl.free", Rows.laid_loop_example_invertedpages_impl_free)] w) ∧ sizedMet enc Tryz.prog Tryz.f4 (OpenSpec.ofChange Rows.fnRangesOfSpec) false w args)
   (Rows.fnRangesOfSpec.post enc Tryz.prog Tryz.f4 false true false false) := by
 refine returnsInHanded_of_change_and (C := Tryz.checked) (X := fun w _ => laidMet Tryz.prog [("loop.example/invertedpages/impl.free", Rows.laid_loop_example_invertedpages_impl_free)] w) (fun _ _ _ hh h => h.of_heap hh) own_ started (by kernel_rfl) Tryz.func4
  (ChangeSpec.witness_at (enc := enc) (C := Tryz.checked) (os := os) (X := fun w _ => laidMet Tryz.prog [("loop.example/invertedpages/impl.free", Rows.laid_loop_example_invertedpages_impl_free)] w) false (laidWorld os) #[.slice none 0 0] 8 rfl (by kernel_rfl) (by kernel_rfl) (by kernel_rfl) (by kernel_rfl) (by kernel_rfl) (laid_met os _)) ?_
 intro W base args ds gs before hval0 hW hcnd _ hL _
 have hval : ∀ (j : Nat) t v, Tryz.f4.params[j]? = some t → args[j]? = some v → Value.okWide Tryz.prog W .any base t v := hval0
 have hW' := hW
 obtain ⟨p, q, hA0, hV0, rfl, hfz, hnd⟩ := hW
 have hA : DataW.TrodAll enc Tryz.prog W 0 (fun _ => true) true Tryz.f4.params.toList args.toList ds p := hA0
 have hV : DataW.TrodVars enc Tryz.prog W (fun _ => true) ["loop.example/invertedpages/impl.free"] gs q := hV0
 rw [Tryz.params4] at hA hval
 obtain ⟨v0, vs0, d0, ds0, p0, q0, hargs, rfl, rfl, h0, r0⟩ := trodAll_cons hA
 obtain ⟨rfl, rfl, rfl⟩ := trodAll_nil r0
 obtain rfl : args = #[v0] := by cases args; simp_all
 obtain ⟨hvar0, hfree⟩ := free_of_laid hL
 obtain ⟨g, t, cs, fuel, d, p', rfl, hg, ht, hvar, hd, rfl⟩ := trodVars_one hV
 obtain rfl := Option.some.inj (free_named.symm.trans hg)
 obtain rfl := Option.some.inj (free_type.symm.trans ht)
 obtain rfl : cs = freeCells := Option.some.inj (hvar.symm.trans hvar0)
 have k0 := h0
 have lt0 : ∀ x ∈ p0, x.block < W.heap.size := by obtain ⟨m, hm⟩ := k0; exact DataW.trod_lt m _ _ _ hm
 have kd : DataW.Trod enc Tryz.prog W 0 (fun _ => true) true 66 (.agg freeCells) d p' := ⟨fuel, hd⟩
 have ltd : ∀ x ∈ p', x.block < W.heap.size := DataW.trod_lt fuel _ _ _ hd
 obtain ⟨a0, len0, cap0, rfl⟩ := okWide_slice Tryz.underlying55 (hval 0 55 v0 rfl rfl)
 obtain ⟨z0, w0⟩ : ∃ zs, IsRow .u8 W a0 len0 cap0 zs := by
  obtain ⟨fuel, hf⟩ := h0
  rcases open_ints Tryz.underlying55 Tryz.underlying5 (by kernel_rfl) hf with ⟨hcs, _⟩ | ⟨x, l, c, zs, hcs, _, hl, hm, hz, _, hcell, hwz⟩
  ·simp [Value.cells] at hcs
   obtain ⟨rfl, rfl, rfl⟩ := hcs
   exact ⟨[], .inl ⟨rfl, rfl, rfl, rfl⟩⟩
  ·simp [Value.cells] at hcs
   obtain ⟨rfl, rfl, rfl⟩ := hcs
   exact ⟨zs, .inr ⟨_, rfl, hl, hm, by simpa using hz, hcell, hwz⟩⟩
 clear hA0 hV0 hval0
 refine (walk a0 len0 cap0 z0 W w0 hfree).mono fun e W' ⟨he, bel⟩ => ?_
 subst he
 have hvar' := var_stays hg hvar bel (Nat.le_refl _)
 obtain ⟨fuel', hd'⟩ := Below.trod laidOut (by kernel_rfl) (of_decide_eq_true (by kernel_rfl)) kd bel ltd
 exact ⟨_, rfl, _, _, _, [], _, _, hW', trodAll_mk1 (shut_bool Tryz.underlying4 _), (trodAll_cons_mk (Below.trod laidOut (by kernel_rfl) (of_decide_eq_true (by kernel_rfl)) k0 bel lt0) trodAll_mk0), ⟨0, 66, freeCells, fuel', _, _, hg, ht, hvar', hd', rfl, rfl⟩, bel.frame _, fun h => by cases h⟩
theorem over : Rows.fnRangesOfRow.holds Tryz.pinned (OpenSpec.ofChange Rows.fnRangesOfSpec) :=
 OpenClaim.holds_of_wide 4 Tryz.f4 rfl rfl rfl rfl rfl rfl rfl ⟨rfl, rfl, rfl, rfl, rfl⟩ rfl rfl rfl rfl rfl (by kernel_rfl) Tryz.func4 closed
  (of_decide_eq_true (by kernel_rfl)) (by unfold Func.isWrapper; rw [if_neg (of_decide_eq_false (by kernel_rfl))]; exact ⟨rfl, rfl⟩)
  (fun os started H enc _ => lifted os started H enc)
end Go.Proofs.YtibpnlojlfcpmaaGreatDoor.lRangesOf
