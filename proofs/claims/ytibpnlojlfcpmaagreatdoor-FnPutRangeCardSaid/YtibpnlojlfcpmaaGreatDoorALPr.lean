/- A part of the proofs of this seat: LPr, LPrE. -/
import Derived.Deep.CutRange
import Derived.Deep.RegionHeldLaw
import Derived.ChangeSame
import Derived.Test.YtibpnlojlfcpmaaGreatDoorARg2
import Derived.Test.YtibpnlojlfcpmaaGreatDoorAFp
set_option linter.unusedVariables false
set_option linter.unusedSimpArgs false
set_option maxRecDepth 1000000
namespace Go.Proofs.YtibpnlojlfcpmaaGreatDoor.lPutRange
open Go.RowKit
theorem pr_parts {m V : Ma} {s p r : Int} {fs : List Int} {O : Bool} (hV : prgV m s p fs r = V) (hO : (prgO m s p fs r).isSome = O) (ht : O = true) :
  mav V = true ∧ (∀ i : Nat, i < fs.length → ∃ a : Nat, fs[i]? = some (a : Int) ∧ fOK V.t s (p + i) = true ∧ fndI V.t.fs s (p + i) = (a : Int)) ∧
  ∃ (bt : Tab) (bg : Tg) (bs : Int), rgV (fun m k => takO m s (p + k)) (fun m k => takV m s (p + k)) V fs.length = ⟨bt, m.c, bg, bs⟩ ∧ (rgO (fun m k => takO m s (p + k)) (fun m k => takV m s (p + k)) V fs.length).isSome = true ∧ (kys bt).length = (kys m.t).length := by
 rw [ht] at hO
 cases e : prgO m s p fs r with
 | none => rw [e] at hO; cases hO
 | some x =>
  unfold prgV at hV
  rw [e] at hV
  have hx : x = V := hV
  subst hx
  obtain ⟨h1, h2, b, h3, h4, h5⟩ := put_back e
  obtain ⟨bt, bc, bg, bs⟩ := b
  simp only at h4 h5
  subst h5
  refine ⟨h1, h2, bt, bg, bs, ?_, ?_, h4⟩
  ·unfold rgV
   rw [h3]; rfl
  ·rw [h3]; rfl
set_option maxHeartbeats 4000000 in
theorem walk (a0 : Option Addr) (len0 cap0 : Nat) (z0 : List Int) (w : World) (w0 : IsRow .u8 w a0 len0 cap0 z0) (hfree : Free w) :
    Calls Tryz.prog 7 #[.slice a0 len0 cap0] w fun e w' => e = .returned (.bool true) ∧ Below w.heap.size w w' := by
  by_cases hbig : 1048576 < len0
  · go_enter Tryz.func7, Tryz.ntmps7
    go_wp2
    go_ret
    exact ⟨rfl, by repeat first | exact bR | refine bA ?_⟩
  have hcap := row_cap w0
  have hby := Hd (row_bytes w0)
  have HF := Hd hfree
  clear w0 hfree
  go_enter Tryz.func7, Tryz.ntmps7
  go_wp2_with fail
  refine (DrawPutRange_any a0 len0 cap0 w hby.out hcap (by omega)).mono ?_
  rintro e w1 ⟨_, rfl, m, v1, v2, v3, v4, s, p, r, A, c, fs, rfl, hM, hz, hS, hfl, hsp, hb1⟩
  obtain ⟨A1, c1, rfl, _⟩ := hM.t.b
  obtain ⟨A2, c2, rfl, _⟩ := hM.t.f
  obtain ⟨A3, c3, rfl, _⟩ := hM.l
  obtain ⟨A4, c4, rfl, _⟩ := hM.o
  have hx := (Own.new_ w1 48 #[.slice A1 m.t.bs.length c1, .slice A2 m.t.fs.length c2, .slice A3 m.c.ls.length c3, .int .i64 m.c.hand, .int .i64 m.g.count, .int .i64 m.g.next, .int .i64 m.g.round, .slice A4 m.g.os.length c4, .int .i64 m.sp]).alloc (o := .cells #[.int .i64 s, .int .i64 p] 61)
  have hk := ownAt (W := w1.alloc (.cells #[.slice A1 m.t.bs.length c1, .slice A2 m.t.fs.length c2, .slice A3 m.c.ls.length c3, .int .i64 m.c.hand, .int .i64 m.g.count, .int .i64 m.g.next, .int .i64 m.g.round, .slice A4 m.g.os.length c4, .int .i64 m.sp] 48)) (g := w1.heap.size + 1) (t := 61) (cs := #[.int .i64 s, .int .i64 p]) (by simp)
  have hb2 : Below w1.heap.size w1 ((w1.alloc (.cells #[.slice A1 m.t.bs.length c1, .slice A2 m.t.fs.length c2, .slice A3 m.c.ls.length c3, .int .i64 m.c.hand, .int .i64 m.g.count, .int .i64 m.g.next, .int .i64 m.g.round, .slice A4 m.g.os.length c4, .int .i64 m.sp] 48)).alloc (.cells #[.int .i64 s, .int .i64 p] 61)) := bA (bA bR)
  have hs2 : ((w1.alloc (.cells #[.slice A1 m.t.bs.length c1, .slice A2 m.t.fs.length c2, .slice A3 m.c.ls.length c3, .int .i64 m.c.hand, .int .i64 m.g.count, .int .i64 m.g.next, .int .i64 m.g.round, .slice A4 m.g.os.length c4, .int .i64 m.sp] 48)).alloc (.cells #[.int .i64 s, .int .i64 p] 61)).heap.size = w1.heap.size + 2 := by simp
  generalize hW2 : (w1.alloc (.cells #[.slice A1 m.t.bs.length c1, .slice A2 m.t.fs.length c2, .slice A3 m.c.ls.length c3, .int .i64 m.c.hand, .int .i64 m.g.count, .int .i64 m.g.next, .int .i64 m.g.round, .slice A4 m.g.os.length c4, .int .i64 m.sp] 48)).alloc (.cells #[.int .i64 s, .int .i64 p] 61) = w2 at hx hk hb2 hs2
  have HM := Hd (hM.now hb2)
  have HE := Hd (hS.now hb2)
  have HX := Hd hx
  have HK := Hd hk
  have HB := Hd (bT hb1 hb2)
  have hs1 := hb1.size
  clear hM hS hx hk hb1 hb2
  generalize hmb : w1.heap.size = mb at *
  obtain ⟨V, hV⟩ : ∃ V, prgV m s p fs r = V := ⟨_, rfl⟩
  obtain ⟨O, hO⟩ : ∃ O, (prgO m s p fs r).isSome = O := ⟨_, rfl⟩
  have KI : Hid (∀ W, Below w2.heap.size w2 W → Calls Tryz.prog 33 #[.agg #[.slice A1 m.t.bs.length c1, .slice A2 m.t.fs.length c2, .slice A3 m.c.ls.length c3, .int .i64 m.c.hand, .int .i64 m.g.count, .int .i64 m.g.next, .int .i64 m.g.round, .slice A4 m.g.os.length c4, .int .i64 m.sp], .agg #[.int .i64 s, .int .i64 p], .slice A fs.length c, .int .i64 r] W (Post2 fun v w' => ∃ v1 v2 v3 v4, v = .tuple #[.agg #[v1, v2, v3, .int .i64 V.c.hand, .int .i64 V.g.count, .int .i64 V.g.next, .int .i64 V.g.round, v4, .int .i64 V.sp], .bool O] ∧ MaM W.heap.size w' v1 v2 v3 v4 V ∧ Below W.heap.size W w')) := by
    intro W hb
    have hMr := (HM.out.now hb).r
    have hFr := HF.out.now (bT HB.out hb)
    subst hV hO
    exact PutRange_any _ _ _ _ m s p r A c fs W hMr hFr (slm_rs2 (HE.out.now hb)) (by omega)
  have KS : Hid (∀ W, Below w2.heap.size w2 W → Calls Tryz.prog 34 #[.agg #[.slice A1 m.t.bs.length c1, .slice A2 m.t.fs.length c2, .slice A3 m.c.ls.length c3, .int .i64 m.c.hand, .int .i64 m.g.count, .int .i64 m.g.next, .int .i64 m.g.round, .slice A4 m.g.os.length c4, .int .i64 m.sp], .agg #[.int .i64 s, .int .i64 p], .slice A fs.length c, .int .i64 r] W (Post2 fun v w' => ∃ v1 v2 v3 v4, v = .tuple #[.agg #[v1, v2, v3, .int .i64 V.c.hand, .int .i64 V.g.count, .int .i64 V.g.next, .int .i64 V.g.round, v4, .int .i64 V.sp], .bool O] ∧ MaM W.heap.size w' v1 v2 v3 v4 V ∧ Below W.heap.size W w')) := by
    intro W hb
    have hMr := (HM.out.now hb).r
    subst hV hO
    exact sPutRange_any _ _ _ _ m s p A c fs r W hMr (slm_rs2 (HE.out.now hb)) (by omega) (by have := hsp.1; have := hsp.2; omega)
  obtain ⟨p0a, p1a, p2a, p3a, p4a, p5a, p6a, p7a, p8a⟩ := cells9 HX.out
  have y0a := HK.out.cell_ 0 (v := .int .i64 s) rfl
  have y1a := HK.out.cell_ 1 (v := .int .i64 p) rfl
  go_wp2_with fail
  try rw [hW2]
  refine (KI.out w2 bR).mono ?_
  rintro e w3 ⟨_, rfl, u1, u2, u3, u4, rfl, hM3, hb3⟩
  clear hW2 KI p0a p1a p2a p3a p4a p5a p6a p7a p8a y0a y1a
  obtain ⟨B1, d1, rfl, _⟩ := hM3.t.b
  obtain ⟨B2, d2, rfl, _⟩ := hM3.t.f
  obtain ⟨B3, d3, rfl, _⟩ := hM3.l
  obtain ⟨B4, d4, rfl, _⟩ := hM3.o
  have hy := Own.new_ w3 48 #[.slice B1 V.t.bs.length d1, .slice B2 V.t.fs.length d2, .slice B3 V.c.ls.length d3, .int .i64 V.c.hand, .int .i64 V.g.count, .int .i64 V.g.next, .int .i64 V.g.round, .slice B4 V.g.os.length d4, .int .i64 V.sp]
  have hb4 : Below w3.heap.size w3 (w3.alloc (.cells #[.slice B1 V.t.bs.length d1, .slice B2 V.t.fs.length d2, .slice B3 V.c.ls.length d3, .int .i64 V.c.hand, .int .i64 V.g.count, .int .i64 V.g.next, .int .i64 V.g.round, .slice B4 V.g.os.length d4, .int .i64 V.sp] 48)) := bA bR
  generalize hW4 : w3.alloc (.cells #[.slice B1 V.t.bs.length d1, .slice B2 V.t.fs.length d2, .slice B3 V.c.ls.length d3, .int .i64 V.c.hand, .int .i64 V.g.count, .int .i64 V.g.next, .int .i64 V.g.round, .slice B4 V.g.os.length d4, .int .i64 V.sp] 48) = w4 at hy hb4
  have hbx := bT hb3 hb4
  try replace HM := Hd (HM.out.now hbx)
  try replace HX := Hd (HX.out.below hbx)
  try replace HK := Hd (HK.out.below hbx)
  try replace HV := Hd (HV.out.now hbx)
  try replace HY := Hd (HY.out.below hbx)
  try replace HU := Hd (HU.out.now hbx)
  try replace HZ := Hd (HZ.out.below hbx)
  try replace HL := Hd (HL.out.now hbx)
  try replace HE := Hd (HE.out.now hbx)
  replace HB := Hd (bT HB.out hbx)
  have HV := Hd (hM3.now hb4)
  have HY := Hd hy
  have hs3 := hb3.size
  clear hM3 hy hb4
  obtain ⟨p0a, p1a, p2a, p3a, p4a, p5a, p6a, p7a, p8a⟩ := cells9 HX.out
  have y0a := HK.out.cell_ 0 (v := .int .i64 s) rfl
  have y1a := HK.out.cell_ 1 (v := .int .i64 p) rfl
  go_wp2_with fail
  try rw [hW4]
  refine (KS.out w4 hbx).mono ?_
  rintro e w5 ⟨_, rfl, u1, u2, u3, u4, rfl, hM5, hb5⟩
  clear hbx
  clear hW4 KS hb3 p0a p1a p2a p3a p4a p5a p6a p7a p8a y0a y1a
  obtain ⟨C1, e1, rfl, _⟩ := hM5.t.b
  obtain ⟨C2, e2, rfl, _⟩ := hM5.t.f
  obtain ⟨C3, e3, rfl, _⟩ := hM5.l
  obtain ⟨C4, e4, rfl, _⟩ := hM5.o
  have hy := Own.new_ w5 48 #[.slice C1 V.t.bs.length e1, .slice C2 V.t.fs.length e2, .slice C3 V.c.ls.length e3, .int .i64 V.c.hand, .int .i64 V.g.count, .int .i64 V.g.next, .int .i64 V.g.round, .slice C4 V.g.os.length e4, .int .i64 V.sp]
  have hb6 : Below w5.heap.size w5 (w5.alloc (.cells #[.slice C1 V.t.bs.length e1, .slice C2 V.t.fs.length e2, .slice C3 V.c.ls.length e3, .int .i64 V.c.hand, .int .i64 V.g.count, .int .i64 V.g.next, .int .i64 V.g.round, .slice C4 V.g.os.length e4, .int .i64 V.sp] 48)) := bA bR
  generalize hW6 : w5.alloc (.cells #[.slice C1 V.t.bs.length e1, .slice C2 V.t.fs.length e2, .slice C3 V.c.ls.length e3, .int .i64 V.c.hand, .int .i64 V.g.count, .int .i64 V.g.next, .int .i64 V.g.round, .slice C4 V.g.os.length e4, .int .i64 V.sp] 48) = w6 at hy hb6
  have hbx := bT hb5 hb6
  try replace HM := Hd (HM.out.now hbx)
  try replace HX := Hd (HX.out.below hbx)
  try replace HK := Hd (HK.out.below hbx)
  try replace HV := Hd (HV.out.now hbx)
  try replace HY := Hd (HY.out.below hbx)
  try replace HU := Hd (HU.out.now hbx)
  try replace HZ := Hd (HZ.out.below hbx)
  try replace HL := Hd (HL.out.now hbx)
  try replace HE := Hd (HE.out.now hbx)
  replace HB := Hd (bT HB.out hbx)
  have HU := Hd (hM5.now hb6)
  have HZ := Hd hy
  have hs5 := hb5.size
  clear hM5 hy hb6
  obtain ⟨p0a, p1a, p2a, p3a, p4a, p5a, p6a, p7a, p8a⟩ := cells9 HY.out
  obtain ⟨p0b, p1b, p2b, p3b, p4b, p5b, p6b, p7b, p8b⟩ := cells9 HZ.out
  clear hb5 hbx 
  go_wp2_with fail
  try rw [hW6]
  refine (MachineSame_same _ _ _ _ _ _ _ _ V w6 HV.out.r HU.out.r).mono ?_
  rintro e w7 ⟨rfl, hb7⟩
  clear hW6 p0a p1a p2a p3a p4a p5a p6a p7a p8a
  clear p0b p1b p2b p3b p4b p5b p6b p7b p8b
  try replace HM := Hd (HM.out.now hb7)
  try replace HX := Hd (HX.out.below hb7)
  try replace HK := Hd (HK.out.below hb7)
  try replace HV := Hd (HV.out.now hb7)
  try replace HY := Hd (HY.out.below hb7)
  try replace HU := Hd (HU.out.now hb7)
  try replace HZ := Hd (HZ.out.below hb7)
  try replace HL := Hd (HL.out.now hb7)
  try replace HE := Hd (HE.out.now hb7)
  replace HB := Hd (bT HB.out hb7)
  clear hb7
  cases O with
  | false =>
    obtain ⟨p0a, p1a, p2a, p3a, p4a, p5a, p6a, p7a, p8a⟩ := cells9 HY.out
    obtain ⟨p0b, p1b, p2b, p3b, p4b, p5b, p6b, p7b, p8b⟩ := cells9 HZ.out
    go_wp2_with fail
    refine (MachineSame_same _ _ _ _ _ _ _ _ V _ HV.out.r HU.out.r).mono ?_
    rintro e w8 ⟨rfl, hb8⟩
    try replace HM := Hd (HM.out.now hb8)
    try replace HX := Hd (HX.out.below hb8)
    try replace HK := Hd (HK.out.below hb8)
    try replace HV := Hd (HV.out.now hb8)
    try replace HY := Hd (HY.out.below hb8)
    try replace HU := Hd (HU.out.now hb8)
    try replace HZ := Hd (HZ.out.below hb8)
    try replace HL := Hd (HL.out.now hb8)
    try replace HE := Hd (HE.out.now hb8)
    replace HB := Hd (bT HB.out hb8)
    go_wp2
    go_ret
    exact ⟨rfl, HB.out⟩
  | true =>
    obtain ⟨hmv, hfd, bt, bg, bs, hq1, hq2, hq3⟩ := pr_parts hV hO rfl
    have HFD := Hd hfd
    have HMV := Hd hmv
    have hfl2 : fs.length ≤ 16 := by omega
    have hp1 := hsp.1
    have hp2 := hsp.2
    have KT : Hid (∀ W, Below w7.heap.size w7 W → Calls Tryz.prog 35 #[.agg #[.slice B1 V.t.bs.length d1, .slice B2 V.t.fs.length d2, .slice B3 V.c.ls.length d3, .int .i64 V.c.hand, .int .i64 V.g.count, .int .i64 V.g.next, .int .i64 V.g.round, .slice B4 V.g.os.length d4, .int .i64 V.sp], .agg #[.int .i64 s, .int .i64 p], .int .i64 (fs.length : Int)] W (Post2 fun v w' => ∃ v1 v2 v3 v4, v = .tuple #[.agg #[v1, v2, v3, .int .i64 (⟨bt, m.c, bg, bs⟩ : Ma).c.hand, .int .i64 (⟨bt, m.c, bg, bs⟩ : Ma).g.count, .int .i64 (⟨bt, m.c, bg, bs⟩ : Ma).g.next, .int .i64 (⟨bt, m.c, bg, bs⟩ : Ma).g.round, v4, .int .i64 (⟨bt, m.c, bg, bs⟩ : Ma).sp], .bool true] ∧ MaM W.heap.size w' v1 v2 v3 v4 (⟨bt, m.c, bg, bs⟩ : Ma) ∧ Below W.heap.size W w')) := by
      intro W hb
      have h := TakeRange_any _ _ _ _ V s p (fs.length : Int) W (HV.out.now hb).r (HF.out.now (bT HB.out hb))
      rw [hq1, hq2] at h
      exact h
    have HQ3 := Hd hq3
    clear hV hO hfd hmv hq1 hq2 hq3 hfl
    obtain ⟨Qm, hQm⟩ : ∃ q : Ma, q = ⟨bt, m.c, bg, bs⟩ := ⟨_, rfl⟩
    rw [← hQm] at KT
    have hQc : Qm.c = m.c := by rw [hQm]
    have hQt : (kys Qm.t).length = (kys m.t).length := by rw [hQm]; exact HQ3.out
    have HQC := Hd hQc
    have HQT := Hd hQt
    clear hQm hQc hQt HQ3
    go_wp2
    go_loopw [11] (fun u wr => ∃ k : Nat, k ≤ fs.length ∧ u = .int .i64 k ∧ Below w7.heap.size w7 wr) (fun u _ => fs.length - (intOf u).toNat)
    case atStart => exact ⟨0, by omega, rfl, bR⟩
    case round =>
      obtain ⟨k, hk, rfl, hbr⟩ := hrel
      try replace HM := Hd (HM.out.now hbr)
      try replace HX := Hd (HX.out.below hbr)
      try replace HK := Hd (HK.out.below hbr)
      try replace HV := Hd (HV.out.now hbr)
      try replace HY := Hd (HY.out.below hbr)
      try replace HU := Hd (HU.out.now hbr)
      try replace HZ := Hd (HZ.out.below hbr)
      try replace HL := Hd (HL.out.now hbr)
      try replace HE := Hd (HE.out.now hbr)
      replace HB := Hd (bT HB.out hbr)
      by_cases hlt : k < fs.length
      · have hki : (k : Int) < (fs.length : Int) := by omega
        obtain ⟨a, ha1, ha2, ha3⟩ := HFD.out k hlt
        have HA2 := Hd ha2
        have hpi : fpI V.t s (p + (k : Int)) = (a : Int) := by unfold fpI; rw [if_pos ha2, ha3]
        have HPI := Hd hpi
        obtain ⟨bq, oq, rfl, hbq, ce⟩ := Rd.i1 (slm_rs2 HE.out) ha1
        clear ha1 ha2 ha3 hpi
        have hwp : IntKind.i64.wrap (p + (k : Int)) = p + k := IntWalk.i64_in _ (by omega)
        have hk0 : (0 : Int) ≤ (k : Int) := by omega
        have x0 := HY.out.cell_ 0 (v := .slice B1 V.t.bs.length d1) rfl
        have x1 := HY.out.cell_ 1 (v := .slice B2 V.t.fs.length d2) rfl
        have g0 := HK.out.cell_ 0 (v := .int .i64 s) rfl
        have g1 := HK.out.cell_ 1 (v := .int .i64 p) rfl
        go_wp2_with fail
        refine (FindPage_any _ _ V.t s (p + (k : Int)) wr HV.out.r.t (HF.out.now HB.out)).mono ?_
        rintro e w9 ⟨_, rfl, nst, rfl, hb9⟩
        rw [HA2.out, HPI.out]
        have ce9 := (hb9.cell (p := ⟨bq, oq + k, none⟩) hbq).trans ce
        have hbr9 := Hd (bT hbr hb9)
        clear x0 x1 g0 g1 hb9 hbr ce
        go_wp2
        go_roundw
        case rel => exact ⟨k + 1, by omega, by simp, hbr9.out⟩
        case measure => simp [intOf]; omega
      · obtain rfl : k = fs.length := by omega
        have hki : decide ((fs.length : Int) < (fs.length : Int)) = false := by simp
        have g0 := HK.out.cell_ 0 (v := .int .i64 s) rfl
        have g1 := HK.out.cell_ 1 (v := .int .i64 p) rfl
        obtain ⟨p0y, p1y, p2y, p3y, p4y, p5y, p6y, p7y, p8y⟩ := cells9 HY.out
        go_wp2_with fail
        refine (KT.out wr hbr).mono ?_
        rintro e w9 ⟨_, rfl, u1, u2, u3, u4, rfl, hM9, hb9⟩
        obtain ⟨Q1, q1, rfl, _⟩ := hM9.t.b
        obtain ⟨Q2, q2, rfl, _⟩ := hM9.t.f
        obtain ⟨Q3, q3, rfl, _⟩ := hM9.l
        obtain ⟨Q4, q4, rfl, _⟩ := hM9.o
        obtain ⟨wX, hWX, hoX, hbX, _⟩ := box1 w9 #[.slice Q1 Qm.t.bs.length q1, .slice Q2 Qm.t.fs.length q2, .slice Q3 Qm.c.ls.length q3, .int .i64 Qm.c.hand, .int .i64 Qm.g.count, .int .i64 Qm.g.next, .int .i64 Qm.g.round, .slice Q4 Qm.g.os.length q4, .int .i64 Qm.sp] 48
        have hbx := bT hb9 hbX
        try replace HM := Hd (HM.out.now hbx)
        try replace HX := Hd (HX.out.below hbx)
        try replace HK := Hd (HK.out.below hbx)
        try replace HV := Hd (HV.out.now hbx)
        try replace HY := Hd (HY.out.below hbx)
        try replace HU := Hd (HU.out.now hbx)
        try replace HZ := Hd (HZ.out.below hbx)
        try replace HL := Hd (HL.out.now hbx)
        try replace HE := Hd (HE.out.now hbx)
        replace HB := Hd (bT HB.out hbx)
        have HN := Hd (hM9.now hbX)
        have HP := Hd hoX
        clear hM9 hb9 hbX hoX hbx KT g0 g1 hbr hki
        clear p0y p1y p2y p3y p4y p5y p6y p7y p8y
        go_upto_region 15 with fail
        try rw [hWX]
        clear hWX
        have KMV := Hd (fun W (hb : Below wX.heap.size wX W) => post2_of (MachineValid_any _ _ _ _ V W (HV.out.now hb).r (HF.out.now (bT HB.out hb))))
        have KK1 := Hd (fun W (hb : Below wX.heap.size wX W) => KeysOf_imp _ _ Qm.t W (HN.out.now hb).r.t (HF.out.now (bT HB.out hb)))
        have KK2 := Hd (fun W (hb : Below wX.heap.size wX W) => KeysOf_imp _ _ m.t W (HM.out.now hb).r.t (HF.out.now (bT HB.out hb)))
        have KCS := Hd (fun W (hb : Below wX.heap.size wX W) => post2_of (CacheSame_same (.slice Q3 Qm.c.ls.length q3) (.slice A3 m.c.ls.length c3) m.c W (by have h := (HN.out.now hb).r.l; rw [HQC.out] at h ⊢; exact h) (HM.out.now hb).r.l))
        have hqt := HQT.out
        rw [hqt] at KK1
        generalize (kys m.t).length = lm at *
        clear hqt HQT
        have hqh : Qm.c.hand = m.c.hand := by rw [HQC.out]
        obtain ⟨s0_0, s0_1, s0_2, s0_3, s0_4, s0_5, s0_6, s0_7, s0_8⟩ := cells9 HY.out
        have s1_0 := HX.out.cell_ 0 (v := .slice A1 m.t.bs.length c1) rfl
        have s1_1 := HX.out.cell_ 1 (v := .slice A2 m.t.fs.length c2) rfl
        have s1_2 := HX.out.cell_ 2 (v := .slice A3 m.c.ls.length c3) rfl
        have s1_3 := HX.out.cell_ 3 (v := .int .i64 m.c.hand) rfl
        have s2_0 := HP.out.cell_ 0 (v := .slice Q1 Qm.t.bs.length q1) rfl
        have s2_1 := HP.out.cell_ 1 (v := .slice Q2 Qm.t.fs.length q2) rfl
        have s2_2 := HP.out.cell_ 2 (v := .slice Q3 Qm.c.ls.length q3) rfl
        have s2_3 := HP.out.cell_ 3 (v := .int .i64 Qm.c.hand) rfl
        go_wp2_with fail
        go_region_held_law (fun w' => w'.cell? ⟨w3.heap.size, 0, none⟩ = some (.slice B1 V.t.bs.length d1) ∧ w'.cell? ⟨w3.heap.size, 1, none⟩ = some (.slice B2 V.t.fs.length d2) ∧ w'.cell? ⟨w3.heap.size, 2, none⟩ = some (.slice B3 V.c.ls.length d3) ∧ w'.cell? ⟨w3.heap.size, 3, none⟩ = some (.int .i64 V.c.hand) ∧ w'.cell? ⟨w3.heap.size, 4, none⟩ = some (.int .i64 V.g.count) ∧ w'.cell? ⟨w3.heap.size, 5, none⟩ = some (.int .i64 V.g.next) ∧ w'.cell? ⟨w3.heap.size, 6, none⟩ = some (.int .i64 V.g.round) ∧ w'.cell? ⟨w3.heap.size, 7, none⟩ = some (.slice B4 V.g.os.length d4) ∧ w'.cell? ⟨w3.heap.size, 8, none⟩ = some (.int .i64 V.sp) ∧ w'.cell? ⟨mb, 0, none⟩ = some (.slice A1 m.t.bs.length c1) ∧ w'.cell? ⟨mb, 1, none⟩ = some (.slice A2 m.t.fs.length c2) ∧ w'.cell? ⟨mb, 2, none⟩ = some (.slice A3 m.c.ls.length c3) ∧ w'.cell? ⟨mb, 3, none⟩ = some (.int .i64 m.c.hand) ∧ w'.cell? ⟨w9.heap.size, 0, none⟩ = some (.slice Q1 Qm.t.bs.length q1) ∧ w'.cell? ⟨w9.heap.size, 1, none⟩ = some (.slice Q2 Qm.t.fs.length q2) ∧ w'.cell? ⟨w9.heap.size, 2, none⟩ = some (.slice Q3 Qm.c.ls.length q3) ∧ w'.cell? ⟨w9.heap.size, 3, none⟩ = some (.int .i64 Qm.c.hand)) (go_keep) (first
          | (go_at_call 36
             refine (KCS.out _ HH2.out).mono ?_
             rintro _ wh3 ⟨_, rfl, rfl, hbwh3⟩
             have HH3 := Hd (bT HH2.out hbwh3)
             have h0_3 := HY.out.below HH3.out
             obtain ⟨s0_3_0, s0_3_1, s0_3_2, s0_3_3, s0_3_4, s0_3_5, s0_3_6, s0_3_7, s0_3_8⟩ := cells9 h0_3
             have h1_3 := HX.out.below HH3.out
             have s1_3_0 := h1_3.cell_ 0 (v := .slice A1 m.t.bs.length c1) rfl
             have s1_3_1 := h1_3.cell_ 1 (v := .slice A2 m.t.fs.length c2) rfl
             have s1_3_2 := h1_3.cell_ 2 (v := .slice A3 m.c.ls.length c3) rfl
             have s1_3_3 := h1_3.cell_ 3 (v := .int .i64 m.c.hand) rfl
             have h2_3 := HP.out.below HH3.out
             have s2_3_0 := h2_3.cell_ 0 (v := .slice Q1 Qm.t.bs.length q1) rfl
             have s2_3_1 := h2_3.cell_ 1 (v := .slice Q2 Qm.t.fs.length q2) rfl
             have s2_3_2 := h2_3.cell_ 2 (v := .slice Q3 Qm.c.ls.length q3) rfl
             have s2_3_3 := h2_3.cell_ 3 (v := .int .i64 Qm.c.hand) rfl
             clear hbwh3 h0_3 h1_3 h2_3)
          | (go_at_call 24
             refine (KK2.out _ HH1.out).mono ?_
             rintro _ wh2 ⟨_, rfl, Kb, kb', rfl, hkb, _, hbwh2⟩
             have HH2 := Hd (bT HH1.out hbwh2)
             have h0_2 := HY.out.below HH2.out
             obtain ⟨s0_2_0, s0_2_1, s0_2_2, s0_2_3, s0_2_4, s0_2_5, s0_2_6, s0_2_7, s0_2_8⟩ := cells9 h0_2
             have h1_2 := HX.out.below HH2.out
             have s1_2_0 := h1_2.cell_ 0 (v := .slice A1 m.t.bs.length c1) rfl
             have s1_2_1 := h1_2.cell_ 1 (v := .slice A2 m.t.fs.length c2) rfl
             have s1_2_2 := h1_2.cell_ 2 (v := .slice A3 m.c.ls.length c3) rfl
             have s1_2_3 := h1_2.cell_ 3 (v := .int .i64 m.c.hand) rfl
             have h2_2 := HP.out.below HH2.out
             have s2_2_0 := h2_2.cell_ 0 (v := .slice Q1 Qm.t.bs.length q1) rfl
             have s2_2_1 := h2_2.cell_ 1 (v := .slice Q2 Qm.t.fs.length q2) rfl
             have s2_2_2 := h2_2.cell_ 2 (v := .slice Q3 Qm.c.ls.length q3) rfl
             have s2_2_3 := h2_2.cell_ 3 (v := .int .i64 Qm.c.hand) rfl
             clear hbwh2 h0_2 h1_2 h2_2)
          | (go_at_call 24
             refine (KK1.out _ HH0.out).mono ?_
             rintro _ wh1 ⟨_, rfl, Ka, ka, rfl, hka, _, hbwh1⟩
             have HH1 := Hd (bT HH0.out hbwh1)
             have h0_1 := HY.out.below HH1.out
             obtain ⟨s0_1_0, s0_1_1, s0_1_2, s0_1_3, s0_1_4, s0_1_5, s0_1_6, s0_1_7, s0_1_8⟩ := cells9 h0_1
             have h1_1 := HX.out.below HH1.out
             have s1_1_0 := h1_1.cell_ 0 (v := .slice A1 m.t.bs.length c1) rfl
             have s1_1_1 := h1_1.cell_ 1 (v := .slice A2 m.t.fs.length c2) rfl
             have s1_1_2 := h1_1.cell_ 2 (v := .slice A3 m.c.ls.length c3) rfl
             have s1_1_3 := h1_1.cell_ 3 (v := .int .i64 m.c.hand) rfl
             have h2_1 := HP.out.below HH1.out
             have s2_1_0 := h2_1.cell_ 0 (v := .slice Q1 Qm.t.bs.length q1) rfl
             have s2_1_1 := h2_1.cell_ 1 (v := .slice Q2 Qm.t.fs.length q2) rfl
             have s2_1_2 := h2_1.cell_ 2 (v := .slice Q3 Qm.c.ls.length q3) rfl
             have s2_1_3 := h2_1.cell_ 3 (v := .int .i64 Qm.c.hand) rfl
             clear hbwh1 h0_1 h1_1 h2_1)
          | (go_at_call 31
             refine (KMV.out _ (bD (bR (w := wX)))).mono ?_
             rintro _ wh0 ⟨_, rfl, rfl, hbwh0⟩
             rw [HMV.out]
             have HH0 := Hd (bT (bD (bR (w := wX))) hbwh0)
             have h0_0 := HY.out.below HH0.out
             obtain ⟨s0_0_0, s0_0_1, s0_0_2, s0_0_3, s0_0_4, s0_0_5, s0_0_6, s0_0_7, s0_0_8⟩ := cells9 h0_0
             have h1_0 := HX.out.below HH0.out
             have s1_0_0 := h1_0.cell_ 0 (v := .slice A1 m.t.bs.length c1) rfl
             have s1_0_1 := h1_0.cell_ 1 (v := .slice A2 m.t.fs.length c2) rfl
             have s1_0_2 := h1_0.cell_ 2 (v := .slice A3 m.c.ls.length c3) rfl
             have s1_0_3 := h1_0.cell_ 3 (v := .int .i64 m.c.hand) rfl
             have h2_0 := HP.out.below HH0.out
             have s2_0_0 := h2_0.cell_ 0 (v := .slice Q1 Qm.t.bs.length q1) rfl
             have s2_0_1 := h2_0.cell_ 1 (v := .slice Q2 Qm.t.fs.length q2) rfl
             have s2_0_2 := h2_0.cell_ 2 (v := .slice Q3 Qm.c.ls.length q3) rfl
             have s2_0_3 := h2_0.cell_ 3 (v := .int .i64 Qm.c.hand) rfl
             clear hbwh0 h0_0 h1_0 h2_0))
        all_goals
          go_wp2
          go_ret
          exact ⟨rfl, bT HB.out HH3.out⟩
end Go.Proofs.YtibpnlojlfcpmaaGreatDoor.lPutRange
namespace Go.Proofs.YtibpnlojlfcpmaaGreatDoor.lPutRange
open Go.ChangeShapes Go.WideShapes Go.ChangeAt Go.RowKit Go.Joins
set_option maxRecDepth 100000 in
theorem lifted (os : Os) (started : os.Started) (H : Type) (enc : TypeId × Value → H) :
  ReturnsInHanded {} Tryz.checked os 7 .any (fun w args => (Rows.fnPutRangeSpec.pre enc Tryz.prog Tryz.f7 Rows.fnPutRangeRow.domain false w args ∧ laidMet Tryz.prog [("loop.example/invertedpages/impl.free", Rows.laid_loop_example_invertedpages_impl_free)] w) ∧ sizedMet enc Tryz.prog Tryz.f7 (OpenSpec.ofChange Rows.fnPutRangeSpec) false w args)
   (Rows.fnPutRangeSpec.post enc Tryz.prog Tryz.f7 false true false false) := by
 refine returnsInHanded_of_change_and (C := Tryz.checked) (X := fun w _ => laidMet Tryz.prog [("loop.example/invertedpages/impl.free", Rows.laid_loop_example_invertedpages_impl_free)] w) (fun _ _ _ hh h => h.of_heap hh) own_ started (by kernel_rfl) Tryz.func7
  (ChangeSpec.witness_at (enc := enc) (C := Tryz.checked) (os := os) (X := fun w _ => laidMet Tryz.prog [("loop.example/invertedpages/impl.free", Rows.laid_loop_example_invertedpages_impl_free)] w) false (laidWorld os) #[.slice none 0 0] 8 rfl (by kernel_rfl) (by kernel_rfl) (by kernel_rfl) (by kernel_rfl) (by kernel_rfl) (laid_met os _)) ?_
 intro W base args ds gs before hval0 hW hcnd _ hL _
 have hval : ∀ (j : Nat) t v, Tryz.f7.params[j]? = some t → args[j]? = some v → Value.okWide Tryz.prog W .any base t v := hval0
 have hW' := hW
 obtain ⟨p, q, hA0, hV0, rfl, hfz, hnd⟩ := hW
 have hA : DataW.TrodAll enc Tryz.prog W 0 (fun _ => true) true Tryz.f7.params.toList args.toList ds p := hA0
 have hV : DataW.TrodVars enc Tryz.prog W (fun _ => true) ["loop.example/invertedpages/impl.free"] gs q := hV0
 rw [Tryz.params7] at hA hval
 obtain ⟨v0, vs0, d0, ds0, p0, q0, hargs, rfl, rfl, h0, r0⟩ := trodAll_cons hA
 obtain ⟨rfl, rfl, rfl⟩ := trodAll_nil r0
 obtain rfl : args = #[v0] := by cases args; simp_all
 obtain ⟨hvar0, hfree⟩ := free_of_laid hL
 obtain ⟨g, t, cs, fuel, d, p', rfl, hg, ht, hvar, hd, rfl⟩ := trodVars_one hV
 obtain rfl := Option.some.inj (free_named.symm.trans hg)
 obtain rfl := Option.some.inj (free_type.symm.trans ht)
 obtain rfl : cs = freeCells := Option.some.inj (hvar.symm.trans hvar0)
 have k0 := h0
 have lt0 : ∀ x ∈ p0, x.block < W.heap.size := by obtain ⟨m, hm⟩ := k0; exact DataW.trod_lt m _ _ _ hm
 have kd : DataW.Trod enc Tryz.prog W 0 (fun _ => true) true 66 (.agg freeCells) d p' := ⟨fuel, hd⟩
 have ltd : ∀ x ∈ p', x.block < W.heap.size := DataW.trod_lt fuel _ _ _ hd
 obtain ⟨a0, len0, cap0, rfl⟩ := okWide_slice Tryz.underlying55 (hval 0 55 v0 rfl rfl)
 obtain ⟨z0, w0⟩ : ∃ zs, IsRow .u8 W a0 len0 cap0 zs := by
  obtain ⟨fuel, hf⟩ := h0
  rcases open_ints Tryz.underlying55 Tryz.underlying5 (by kernel_rfl) hf with ⟨hcs, _⟩ | ⟨x, l, c, zs, hcs, _, hl, hm, hz, _, hcell, hwz⟩
  ·simp [Value.cells] at hcs
   obtain ⟨rfl, rfl, rfl⟩ := hcs
   exact ⟨[], .inl ⟨rfl, rfl, rfl, rfl⟩⟩
  ·simp [Value.cells] at hcs
   obtain ⟨rfl, rfl, rfl⟩ := hcs
   exact ⟨zs, .inr ⟨_, rfl, hl, hm, by simpa using hz, hcell, hwz⟩⟩
 clear hA0 hV0 hval0
 refine (walk a0 len0 cap0 z0 W w0 hfree).mono fun e W' ⟨he, bel⟩ => ?_
 subst he
 have hvar' := var_stays hg hvar bel (Nat.le_refl _)
 obtain ⟨fuel', hd'⟩ := Below.trod laidOut (by kernel_rfl) (of_decide_eq_true (by kernel_rfl)) kd bel ltd
 exact ⟨_, rfl, _, _, _, [], _, _, hW', trodAll_mk1 (shut_bool Tryz.underlying4 _), (trodAll_cons_mk (Below.trod laidOut (by kernel_rfl) (of_decide_eq_true (by kernel_rfl)) k0 bel lt0) trodAll_mk0), ⟨0, 66, freeCells, fuel', _, _, hg, ht, hvar', hd', rfl, rfl⟩, bel.frame _, fun h => by cases h⟩
theorem over : Rows.fnPutRangeRow.holds Tryz.pinned (OpenSpec.ofChange Rows.fnPutRangeSpec) :=
 OpenClaim.holds_of_wide 7 Tryz.f7 rfl rfl rfl rfl rfl rfl rfl ⟨rfl, rfl, rfl, rfl, rfl⟩ rfl rfl rfl rfl rfl (by kernel_rfl) Tryz.func7 closed
  (of_decide_eq_true (by kernel_rfl)) (by unfold Func.isWrapper; rw [if_neg (of_decide_eq_false (by kernel_rfl))]; exact ⟨rfl, rfl⟩)
  (fun os started H enc _ => lifted os started H enc)
end Go.Proofs.YtibpnlojlfcpmaaGreatDoor.lPutRange
