/- A part of the proofs of this seat: LEs, LEsD, LEsE. -/
import Derived.ChangeSame
import Derived.Deep.CutRange
import Derived.Test.YtibpnlojlfcpmaaGreatDoorADs
import Derived.Test.YtibpnlojlfcpmaaGreatDoorAEsI
set_option linter.unusedVariables false
set_option linter.unusedSimpArgs false
set_option maxRecDepth 1000000
namespace Go.Proofs.YtibpnlojlfcpmaaGreatDoor.lEndSpace
open Go.ChangeShapes Go.WideShapes Go.ChangeAt Go.RowKit Go.Joins
set_option maxRecDepth 100000 in
theorem closed : joinedFacts Tryz.prog 6 Tryz.f6 Rows.fnEndSpaceSpec Rows.fnEndSpaceRow = true := by
 unfold joinedFacts
 rw [may_enter, lifts_final, make_cut]
 refine Eq.trans ?_ (Eq.refl _)
 kernel_rfl
end Go.Proofs.YtibpnlojlfcpmaaGreatDoor.lEndSpace
namespace Go.Proofs.YtibpnlojlfcpmaaGreatDoor.lEndSpace
open Go.RowKit
set_option maxHeartbeats 4000000 in
theorem walk (a0 : Option Addr) (len0 cap0 : Nat) (z0 : List Int) (w : World) (w0 : IsRow .u8 w a0 len0 cap0 z0) (hfree : Free w) :
  Calls Tryz.prog 6 #[.slice a0 len0 cap0] w fun e w' => e = .returned (.bool true) ∧ Below w.heap.size w w' := by
 by_cases hbig : 1048576 < len0
 ·go_enter Tryz.func6, Tryz.ntmps6
  go_wp2
  go_ret
  exact ⟨rfl, by repeat first | exact bR | refine bA ?_⟩
 have hcap := row_cap w0
 have hby := Hd (row_bytes w0)
 have HF := Hd hfree
 clear w0 hfree
 go_enter Tryz.func6, Tryz.ntmps6
 go_wp2_with fail
 refine (DrawEndSpace_any a0 len0 cap0 w hby.out hcap (by omega)).mono ?_
 rintro e w1 ⟨_, rfl, m, v1, v2, v3, v4, s, rfl, hM, hz, hss, hb1⟩
 obtain ⟨A1, c1, rfl, _⟩ := hM.t.b
 obtain ⟨A2, c2, rfl, _⟩ := hM.t.f
 obtain ⟨A3, c3, rfl, _⟩ := hM.l
 obtain ⟨A4, c4, rfl, _⟩ := hM.o
 have hx := Own.new_ w1 48 #[.slice A1 m.t.bs.length c1, .slice A2 m.t.fs.length c2, .slice A3 m.c.ls.length c3, .int .i64 m.c.hand, .int .i64 m.g.count, .int .i64 m.g.next, .int .i64 m.g.round, .slice A4 m.g.os.length c4, .int .i64 m.sp]
 have hb2 : Below w1.heap.size w1 (w1.alloc (.cells #[.slice A1 m.t.bs.length c1, .slice A2 m.t.fs.length c2, .slice A3 m.c.ls.length c3, .int .i64 m.c.hand, .int .i64 m.g.count, .int .i64 m.g.next, .int .i64 m.g.round, .slice A4 m.g.os.length c4, .int .i64 m.sp] 48)) := bA bR
 have hs2 : (w1.alloc (.cells #[.slice A1 m.t.bs.length c1, .slice A2 m.t.fs.length c2, .slice A3 m.c.ls.length c3, .int .i64 m.c.hand, .int .i64 m.g.count, .int .i64 m.g.next, .int .i64 m.g.round, .slice A4 m.g.os.length c4, .int .i64 m.sp] 48)).heap.size = w1.heap.size + 1 := by simp
 generalize hW2 : w1.alloc (.cells #[.slice A1 m.t.bs.length c1, .slice A2 m.t.fs.length c2, .slice A3 m.c.ls.length c3, .int .i64 m.c.hand, .int .i64 m.g.count, .int .i64 m.g.next, .int .i64 m.g.round, .slice A4 m.g.os.length c4, .int .i64 m.sp] 48) = w2 at hx hb2 hs2
 have HM := Hd (hM.now hb2)
 have HX := Hd hx
 have HB := Hd (bT hb1 hb2)
 have hs1 := hb1.size
 clear hM hx hb1 hb2
 generalize hmb : w1.heap.size = mb at *
 obtain ⟨V, hV⟩ : ∃ V, endV m s = V := ⟨_, rfl⟩
 obtain ⟨O, hO⟩ : ∃ O, endO m s = O := ⟨_, rfl⟩
 have KI : Hid (∀ W, Below w2.heap.size w2 W → Calls Tryz.prog 27 #[.agg #[.slice A1 m.t.bs.length c1, .slice A2 m.t.fs.length c2, .slice A3 m.c.ls.length c3, .int .i64 m.c.hand, .int .i64 m.g.count, .int .i64 m.g.next, .int .i64 m.g.round, .slice A4 m.g.os.length c4, .int .i64 m.sp], .int .i64 s] W (Post2 fun v w' => ∃ v1 v2 v3 v4, v = .tuple #[.agg #[v1, v2, v3, .int .i64 V.c.hand, .int .i64 V.g.count, .int .i64 V.g.next, .int .i64 V.g.round, v4, .int .i64 V.sp], .bool O] ∧ MaM W.heap.size w' v1 v2 v3 v4 V ∧ Below W.heap.size W w')) := by
  intro W hb
  have hMr := (HM.out.now hb).r
  have hFr := HF.out.now (bT HB.out hb)
  subst hV hO
  exact EndSpace_any _ _ _ _ m s W hMr hFr
 have KS : Hid (∀ W, Below w2.heap.size w2 W → Calls Tryz.prog 28 #[.agg #[.slice A1 m.t.bs.length c1, .slice A2 m.t.fs.length c2, .slice A3 m.c.ls.length c3, .int .i64 m.c.hand, .int .i64 m.g.count, .int .i64 m.g.next, .int .i64 m.g.round, .slice A4 m.g.os.length c4, .int .i64 m.sp], .int .i64 s] W (Post2 fun v w' => ∃ v1 v2 v3 v4, v = .tuple #[.agg #[v1, v2, v3, .int .i64 V.c.hand, .int .i64 V.g.count, .int .i64 V.g.next, .int .i64 V.g.round, v4, .int .i64 V.sp], .bool O] ∧ MaM W.heap.size w' v1 v2 v3 v4 V ∧ Below W.heap.size W w')) := by
  intro W hb
  have hMr := (HM.out.now hb).r
  subst hV hO
  exact sEndSpace_any _ _ _ _ m s W hMr
 obtain ⟨p0a, p1a, p2a, p3a, p4a, p5a, p6a, p7a, p8a⟩ := cells9 HX.out
 go_wp2_with fail
 try rw [hW2]
 refine (KI.out w2 bR).mono ?_
 rintro e w3 ⟨_, rfl, u1, u2, u3, u4, rfl, hM3, hb3⟩
 clear hW2 KI p0a p1a p2a p3a p4a p5a p6a p7a p8a
 obtain ⟨B1, d1, rfl, _⟩ := hM3.t.b
 obtain ⟨B2, d2, rfl, _⟩ := hM3.t.f
 obtain ⟨B3, d3, rfl, _⟩ := hM3.l
 obtain ⟨B4, d4, rfl, _⟩ := hM3.o
 have hy := Own.new_ w3 48 #[.slice B1 V.t.bs.length d1, .slice B2 V.t.fs.length d2, .slice B3 V.c.ls.length d3, .int .i64 V.c.hand, .int .i64 V.g.count, .int .i64 V.g.next, .int .i64 V.g.round, .slice B4 V.g.os.length d4, .int .i64 V.sp]
 have hb4 : Below w3.heap.size w3 (w3.alloc (.cells #[.slice B1 V.t.bs.length d1, .slice B2 V.t.fs.length d2, .slice B3 V.c.ls.length d3, .int .i64 V.c.hand, .int .i64 V.g.count, .int .i64 V.g.next, .int .i64 V.g.round, .slice B4 V.g.os.length d4, .int .i64 V.sp] 48)) := bA bR
 generalize hW4 : w3.alloc (.cells #[.slice B1 V.t.bs.length d1, .slice B2 V.t.fs.length d2, .slice B3 V.c.ls.length d3, .int .i64 V.c.hand, .int .i64 V.g.count, .int .i64 V.g.next, .int .i64 V.g.round, .slice B4 V.g.os.length d4, .int .i64 V.sp] 48) = w4 at hy hb4
 have hbx := bT hb3 hb4
 try replace HM := Hd (HM.out.now hbx)
 try replace HX := Hd (HX.out.below hbx)
 try replace HK := Hd (HK.out.below hbx)
 try replace HV := Hd (HV.out.now hbx)
 try replace HY := Hd (HY.out.below hbx)
 try replace HU := Hd (HU.out.now hbx)
 try replace HZ := Hd (HZ.out.below hbx)
 try replace HL := Hd (HL.out.now hbx)
 try replace HE := Hd (HE.out.now hbx)
 replace HB := Hd (bT HB.out hbx)
 have HV := Hd (hM3.now hb4)
 have HY := Hd hy
 have hs3 := hb3.size
 clear hM3 hy hb4
 obtain ⟨p0a, p1a, p2a, p3a, p4a, p5a, p6a, p7a, p8a⟩ := cells9 HX.out
 go_wp2_with fail
 try rw [hW4]
 refine (KS.out w4 hbx).mono ?_
 rintro e w5 ⟨_, rfl, u1, u2, u3, u4, rfl, hM5, hb5⟩
 clear hbx
 clear hW4 KS hb3 p0a p1a p2a p3a p4a p5a p6a p7a p8a
 obtain ⟨C1, e1, rfl, _⟩ := hM5.t.b
 obtain ⟨C2, e2, rfl, _⟩ := hM5.t.f
 obtain ⟨C3, e3, rfl, _⟩ := hM5.l
 obtain ⟨C4, e4, rfl, _⟩ := hM5.o
 have hy := Own.new_ w5 48 #[.slice C1 V.t.bs.length e1, .slice C2 V.t.fs.length e2, .slice C3 V.c.ls.length e3, .int .i64 V.c.hand, .int .i64 V.g.count, .int .i64 V.g.next, .int .i64 V.g.round, .slice C4 V.g.os.length e4, .int .i64 V.sp]
 have hb6 : Below w5.heap.size w5 (w5.alloc (.cells #[.slice C1 V.t.bs.length e1, .slice C2 V.t.fs.length e2, .slice C3 V.c.ls.length e3, .int .i64 V.c.hand, .int .i64 V.g.count, .int .i64 V.g.next, .int .i64 V.g.round, .slice C4 V.g.os.length e4, .int .i64 V.sp] 48)) := bA bR
 generalize hW6 : w5.alloc (.cells #[.slice C1 V.t.bs.length e1, .slice C2 V.t.fs.length e2, .slice C3 V.c.ls.length e3, .int .i64 V.c.hand, .int .i64 V.g.count, .int .i64 V.g.next, .int .i64 V.g.round, .slice C4 V.g.os.length e4, .int .i64 V.sp] 48) = w6 at hy hb6
 have hbx := bT hb5 hb6
 try replace HM := Hd (HM.out.now hbx)
 try replace HX := Hd (HX.out.below hbx)
 try replace HK := Hd (HK.out.below hbx)
 try replace HV := Hd (HV.out.now hbx)
 try replace HY := Hd (HY.out.below hbx)
 try replace HU := Hd (HU.out.now hbx)
 try replace HZ := Hd (HZ.out.below hbx)
 try replace HL := Hd (HL.out.now hbx)
 try replace HE := Hd (HE.out.now hbx)
 replace HB := Hd (bT HB.out hbx)
 have HU := Hd (hM5.now hb6)
 have HZ := Hd hy
 have hs5 := hb5.size
 clear hM5 hy hb6
 obtain ⟨p0a, p1a, p2a, p3a, p4a, p5a, p6a, p7a, p8a⟩ := cells9 HY.out
 obtain ⟨p0b, p1b, p2b, p3b, p4b, p5b, p6b, p7b, p8b⟩ := cells9 HZ.out
 clear hb5 hbx 
 go_wp2_with fail
 try rw [hW6]
 refine (MachineSame_same _ _ _ _ _ _ _ _ V w6 HV.out.r HU.out.r).mono ?_
 rintro e w7 ⟨rfl, hb7⟩
 clear hW6 p0a p1a p2a p3a p4a p5a p6a p7a p8a
 clear p0b p1b p2b p3b p4b p5b p6b p7b p8b
 try replace HM := Hd (HM.out.now hb7)
 try replace HX := Hd (HX.out.below hb7)
 try replace HK := Hd (HK.out.below hb7)
 try replace HV := Hd (HV.out.now hb7)
 try replace HY := Hd (HY.out.below hb7)
 try replace HU := Hd (HU.out.now hb7)
 try replace HZ := Hd (HZ.out.below hb7)
 try replace HL := Hd (HL.out.now hb7)
 try replace HE := Hd (HE.out.now hb7)
 replace HB := Hd (bT HB.out hb7)
 clear hb7
 cases O with
 | false =>
  obtain ⟨p0a, p1a, p2a, p3a, p4a, p5a, p6a, p7a, p8a⟩ := cells9 HY.out
  obtain ⟨p0b, p1b, p2b, p3b, p4b, p5b, p6b, p7b, p8b⟩ := cells9 HZ.out
  go_wp2_with fail
  refine (MachineSame_same _ _ _ _ _ _ _ _ V _ HV.out.r HU.out.r).mono ?_
  rintro e w8 ⟨rfl, hb8⟩
  try replace HM := Hd (HM.out.now hb8)
  try replace HX := Hd (HX.out.below hb8)
  try replace HK := Hd (HK.out.below hb8)
  try replace HV := Hd (HV.out.now hb8)
  try replace HY := Hd (HY.out.below hb8)
  try replace HU := Hd (HU.out.now hb8)
  try replace HZ := Hd (HZ.out.below hb8)
  try replace HL := Hd (HL.out.now hb8)
  try replace HE := Hd (HE.out.now hb8)
  replace HB := Hd (bT HB.out hb8)
  go_wp2
  go_ret
  exact ⟨rfl, HB.out⟩
 | true =>
  obtain ⟨hmm, _, _, hmv, _, _, htg, hfl, hall⟩ := end_parts hO
  have hm16 : m.t.fs.length ≤ 16 := ((tv_parts (mav_parts hmm).1).1).2.1
  clear hmm
  rw [hV] at hmv htg hfl hall
  have HMV := Hd hmv
  have HTG := Hd htg
  have HALL := Hd hall
  have HFL := Hd hfl
  clear hV hO hmv htg hall hfl
  go_wp2
  go_loopw [9] (fun u wr => ∃ k : Nat, k ≤ m.t.fs.length ∧ u = .int .i64 k ∧ Below w7.heap.size w7 wr) (fun u _ => m.t.fs.length - (intOf u).toNat)
  case atStart => exact ⟨0, by omega, rfl, bR⟩
  case round =>
   obtain ⟨k, hk, rfl, hbr⟩ := hrel
   try replace HM := Hd (HM.out.now hbr)
   try replace HX := Hd (HX.out.below hbr)
   try replace HK := Hd (HK.out.below hbr)
   try replace HV := Hd (HV.out.now hbr)
   try replace HY := Hd (HY.out.below hbr)
   try replace HU := Hd (HU.out.now hbr)
   try replace HZ := Hd (HZ.out.below hbr)
   try replace HL := Hd (HL.out.now hbr)
   try replace HE := Hd (HE.out.now hbr)
   replace HB := Hd (bT HB.out hbr)
   have x1 := HX.out.cell_ 1 (v := .slice A2 m.t.fs.length c2) rfl
   by_cases hlt : k < m.t.fs.length
   ·have hki : (k : Int) < (m.t.fs.length : Int) := by omega
    have hki2 : (k : Int) < (V.t.fs.length : Int) := by have := HFL.out; omega
    have hk0 : (0 : Int) ≤ (k : Int) := by omega
    obtain ⟨f, ef⟩ : ∃ f, m.t.fs[k]? = some f := ⟨_, List.getElem?_eq_getElem hlt⟩
    obtain ⟨g, eg, hg1, hg2⟩ := HALL.out k f ef
    obtain ⟨br, ow, e1, hbr2, f0, f1, f2, f3, f4⟩ := HM.out.r.t.fsl.fr ef
    obtain ⟨bq, oq, e2, hbq, g0, g1, g2, g3, g4⟩ := HV.out.r.t.fsl.fr eg
    obtain rfl := e1
    obtain rfl := e2
    have HG1 := Hd hg1
    have HG2 := Hd hg2
    clear ef eg hg1 hg2
    obtain ⟨wX, hWX, hoX, hbX, hsX⟩ := box1 wr #[.bool f.used, .int .i64 f.s, .int .i64 f.p, .int .i64 f.r, .int .i64 f.n] 66
    go_upto_region 12 with fail
    try rw [hWX]
    clear hWX f0 f1 f2 f3 f4 x1
    have g0' := (hbX.cell (p := ⟨bq, _, none⟩) hbq).trans g0
    have g1' := (hbX.cell (p := ⟨bq, _, none⟩) hbq).trans g1
    have g2' := (hbX.cell (p := ⟨bq, _, none⟩) hbq).trans g2
    have g3' := (hbX.cell (p := ⟨bq, _, none⟩) hbq).trans g3
    have g4' := (hbX.cell (p := ⟨bq, _, none⟩) hbq).trans g4
    clear g0 g1 g2 g3 g4
    try replace HM := Hd (HM.out.now hbX)
    try replace HX := Hd (HX.out.below hbX)
    try replace HK := Hd (HK.out.below hbX)
    try replace HV := Hd (HV.out.now hbX)
    try replace HY := Hd (HY.out.below hbX)
    try replace HU := Hd (HU.out.now hbX)
    try replace HZ := Hd (HZ.out.below hbX)
    try replace HL := Hd (HL.out.now hbX)
    try replace HE := Hd (HE.out.now hbX)
    replace HB := Hd (bT HB.out hbX)
    have y1 := HY.out.cell_ 1 (v := .slice (some ⟨bq, oq, none⟩) V.t.fs.length d2) rfl
    obtain ⟨wY, hWY, hoY, hbY, hsY⟩ := box1 wX #[.bool g.used, .int .i64 g.s, .int .i64 g.p, .int .i64 g.r, .int .i64 g.n] 66
    go_upto_region 13 with fail
    try rw [hWY]
    clear hWY g0' g1' g2' g3' g4' y1
    rw [hsX] at hoY
    have hp := hoX.below hbY
    have HBR := Hd (bT hbr (bT hbX hbY))
    have a0' := hp.cell_ 0 (v := .bool f.used) rfl
    have a1' := hp.cell_ 1 (v := .int .i64 f.s) rfl
    have a2' := hp.cell_ 2 (v := .int .i64 f.p) rfl
    have a3' := hp.cell_ 3 (v := .int .i64 f.r) rfl
    have q0' := hoY.cell_ 0 (v := .bool g.used) rfl
    have q1' := hoY.cell_ 1 (v := .int .i64 g.s) rfl
    have q2' := hoY.cell_ 2 (v := .int .i64 g.p) rfl
    have q3' := hoY.cell_ 3 (v := .int .i64 g.r) rfl
    have hpl := hp.lt
    have hql := hoY.lt
    clear hp hoX hoY hbX hbY hbr
    cases hu : f.used with
    | true =>
     rw [hu] at a0'
     by_cases hs : f.s = s
     ·have hgu := HG1.out hu hs
      rw [hgu] at q0'
      rw [hs] at a1'
      clear HG1 HG2 hgu hs hu
      go_wp2
      go_roundw
      case rel => exact ⟨k + 1, by omega, by simp, HBR.out⟩
      case measure => simp [intOf]; omega
     ·obtain ⟨h1, h2, h3, h4⟩ := HG2.out (fun h => hs h.2)
      rw [h1, hu] at q0'
      rw [h2] at q1'
      rw [h3] at q2'
      rw [h4] at q3'
      have he := fun W => neq_of (t := 61) (fun e w => eqIn_key (e + 1) f.s f.p f.s f.p w) W
      have hkq : keq f.s f.p f.s f.p = true := by unfold keq; simp
      rw [hkq] at he
      have hsq : (f.s == s) = false := by rw [beq_eq_false_iff_ne]; exact hs
      clear HG1 HG2 h1 h2 h3 h4 hu hkq
      go_wp2
      go_roundw
      case rel => exact ⟨k + 1, by omega, by simp, HBR.out⟩
      case measure => simp [intOf]; omega
    | false =>
     rw [hu] at a0'
     obtain ⟨h1, h2, h3, h4⟩ := HG2.out (fun h => by rw [hu] at h; exact absurd h.1 (by simp))
     rw [h1, hu] at q0'
     rw [h2] at q1'
     rw [h3] at q2'
     rw [h4] at q3'
     have he := fun W => neq_of (t := 61) (fun e w => eqIn_key (e + 1) f.s f.p f.s f.p w) W
     have hkq : keq f.s f.p f.s f.p = true := by unfold keq; simp
     rw [hkq] at he
     clear HG1 HG2 h1 h2 h3 h4 hu hkq
     go_wp2
     go_roundw
     case rel => exact ⟨k + 1, by omega, by simp, HBR.out⟩
     case measure => simp [intOf]; omega
   ·obtain rfl : k = m.t.fs.length := by omega
    have hki : ¬ ((m.t.fs.length : Int) < (m.t.fs.length : Int)) := by omega
    have y4 := HY.out.cell_ 4 (v := .int .i64 V.g.count) rfl
    have y5 := HY.out.cell_ 5 (v := .int .i64 V.g.next) rfl
    have y6 := HY.out.cell_ 6 (v := .int .i64 V.g.round) rfl
    have y7 := HY.out.cell_ 7 (v := .slice B4 V.g.os.length d4) rfl
    go_wp2_with fail
    refine (TagOf_any _ V.g s _ HV.out.o.r).mono ?_
    rintro e w9 ⟨rfl, hb9⟩
    rw [HTG.out]
    generalize tgT V.g s = zt
    clear y4 y5 y6 y7 x1 hbr
    try replace HM := Hd (HM.out.now hb9)
    try replace HX := Hd (HX.out.below hb9)
    try replace HK := Hd (HK.out.below hb9)
    try replace HV := Hd (HV.out.now hb9)
    try replace HY := Hd (HY.out.below hb9)
    try replace HU := Hd (HU.out.now hb9)
    try replace HZ := Hd (HZ.out.below hb9)
    try replace HL := Hd (HL.out.now hb9)
    try replace HE := Hd (HE.out.now hb9)
    replace HB := Hd (bT HB.out hb9)
    obtain ⟨p0y, p1y, p2y, p3y, p4y, p5y, p6y, p7y, p8y⟩ := cells9 HY.out
    go_wp2_with fail
    refine (MachineValid_any _ _ _ _ V _ HV.out.r (HF.out.now HB.out)).mono ?_
    rintro e w11 ⟨rfl, hb11⟩
    rw [HMV.out]
    have HBE := Hd (bT HB.out hb11)
    clear p0y p1y p2y p3y p4y p5y p6y p7y p8y
    go_wp2
    go_ret
    exact ⟨rfl, HBE.out⟩
end Go.Proofs.YtibpnlojlfcpmaaGreatDoor.lEndSpace
namespace Go.Proofs.YtibpnlojlfcpmaaGreatDoor.lEndSpace
open Go.ChangeShapes Go.WideShapes Go.ChangeAt Go.RowKit Go.Joins
set_option maxRecDepth 100000 in
theorem lifted (os : Os) (started : os.Started) (H : Type) (enc : TypeId × Value → H) :
  ReturnsInHanded {} Tryz.checked os 6 .any (fun w args => (Rows.fnEndSpaceSpec.pre enc Tryz.prog Tryz.f6 Rows.fnEndSpaceRow.domain false w args ∧ laidMet Tryz.prog [("loop.example/invertedpages/impl.free", Rows.laid_loop_example_invertedpages_impl_free)] w) ∧ sizedMet enc Tryz.prog Tryz.f6 (OpenSpec.ofChange Rows.fnEndSpaceSpec) false w args)
   (Rows.fnEndSpaceSpec.post enc Tryz.prog Tryz.f6 false true false false) := by
 refine returnsInHanded_of_change_and (C := Tryz.checked) (X := fun w _ => laidMet Tryz.prog [("loop.example/invertedpages/impl.free", Rows.laid_loop_example_invertedpages_impl_free)] w) (fun _ _ _ hh h => h.of_heap hh) own_ started (by kernel_rfl) Tryz.func6
  (ChangeSpec.witness_at (enc := enc) (C := Tryz.checked) (os := os) (X := fun w _ => laidMet Tryz.prog [("loop.example/invertedpages/impl.free", Rows.laid_loop_example_invertedpages_impl_free)] w) false (laidWorld os) #[.slice none 0 0] 8 rfl (by kernel_rfl) (by kernel_rfl) (by kernel_rfl) (by kernel_rfl) (by kernel_rfl) (laid_met os _)) ?_
 intro W base args ds gs before hval0 hW hcnd _ hL _
 have hval : ∀ (j : Nat) t v, Tryz.f6.params[j]? = some t → args[j]? = some v → Value.okWide Tryz.prog W .any base t v := hval0
 have hW' := hW
 obtain ⟨p, q, hA0, hV0, rfl, hfz, hnd⟩ := hW
 have hA : DataW.TrodAll enc Tryz.prog W 0 (fun _ => true) true Tryz.f6.params.toList args.toList ds p := hA0
 have hV : DataW.TrodVars enc Tryz.prog W (fun _ => true) ["loop.example/invertedpages/impl.free"] gs q := hV0
 rw [Tryz.params6] at hA hval
 obtain ⟨v0, vs0, d0, ds0, p0, q0, hargs, rfl, rfl, h0, r0⟩ := trodAll_cons hA
 obtain ⟨rfl, rfl, rfl⟩ := trodAll_nil r0
 obtain rfl : args = #[v0] := by cases args; simp_all
 obtain ⟨hvar0, hfree⟩ := free_of_laid hL
 obtain ⟨g, t, cs, fuel, d, p', rfl, hg, ht, hvar, hd, rfl⟩ := trodVars_one hV
 obtain rfl := Option.some.inj (free_named.symm.trans hg)
 obtain rfl := Option.some.inj (free_type.symm.trans ht)
 obtain rfl : cs = freeCells := Option.some.inj (hvar.symm.trans hvar0)
 have k0 := h0
 have lt0 : ∀ x ∈ p0, x.block < W.heap.size := by obtain ⟨m, hm⟩ := k0; exact DataW.trod_lt m _ _ _ hm
 have kd : DataW.Trod enc Tryz.prog W 0 (fun _ => true) true 66 (.agg freeCells) d p' := ⟨fuel, hd⟩
 have ltd : ∀ x ∈ p', x.block < W.heap.size := DataW.trod_lt fuel _ _ _ hd
 obtain ⟨a0, len0, cap0, rfl⟩ := okWide_slice Tryz.underlying55 (hval 0 55 v0 rfl rfl)
 obtain ⟨z0, w0⟩ : ∃ zs, IsRow .u8 W a0 len0 cap0 zs := by
  obtain ⟨fuel, hf⟩ := h0
  rcases open_ints Tryz.underlying55 Tryz.underlying5 (by kernel_rfl) hf with ⟨hcs, _⟩ | ⟨x, l, c, zs, hcs, _, hl, hm, hz, _, hcell, hwz⟩
  ·simp [Value.cells] at hcs
   obtain ⟨rfl, rfl, rfl⟩ := hcs
   exact ⟨[], .inl ⟨rfl, rfl, rfl, rfl⟩⟩
  ·simp [Value.cells] at hcs
   obtain ⟨rfl, rfl, rfl⟩ := hcs
   exact ⟨zs, .inr ⟨_, rfl, hl, hm, by simpa using hz, hcell, hwz⟩⟩
 clear hA0 hV0 hval0
 refine (walk a0 len0 cap0 z0 W w0 hfree).mono fun e W' ⟨he, bel⟩ => ?_
 subst he
 have hvar' := var_stays hg hvar bel (Nat.le_refl _)
 obtain ⟨fuel', hd'⟩ := Below.trod laidOut (by kernel_rfl) (of_decide_eq_true (by kernel_rfl)) kd bel ltd
 exact ⟨_, rfl, _, _, _, [], _, _, hW', trodAll_mk1 (shut_bool Tryz.underlying4 _), (trodAll_cons_mk (Below.trod laidOut (by kernel_rfl) (of_decide_eq_true (by kernel_rfl)) k0 bel lt0) trodAll_mk0), ⟨0, 66, freeCells, fuel', _, _, hg, ht, hvar', hd', rfl, rfl⟩, bel.frame _, fun h => by cases h⟩
theorem over : Rows.fnEndSpaceRow.holds Tryz.pinned (OpenSpec.ofChange Rows.fnEndSpaceSpec) :=
 OpenClaim.holds_of_wide 6 Tryz.f6 rfl rfl rfl rfl rfl rfl rfl ⟨rfl, rfl, rfl, rfl, rfl⟩ rfl rfl rfl rfl rfl (by kernel_rfl) Tryz.func6 closed
  (of_decide_eq_true (by kernel_rfl)) (by unfold Func.isWrapper; rw [if_neg (of_decide_eq_false (by kernel_rfl))]; exact ⟨rfl, rfl⟩)
  (fun os started H enc _ => lifted os started H enc)
end Go.Proofs.YtibpnlojlfcpmaaGreatDoor.lEndSpace
