/- A part of the proofs of this seat: LGg. -/
import Derived.Deep.CutRange
import Derived.Test.YtnaagdmaggdbmaaGreatDoorQCp6
import Derived.Test.YtnaagdmaggdbmaaGreatDoorQKeep
import Derived.Test.YtnaagdmaggdbmaaGreatDoorQTchP
import Derived.Test.YtnaagdmaggdbmaaGreatDoorQGdI
import Derived.Test.YtnaagdmaggdbmaaGreatDoorQRgS
import Derived.Test.YtnaagdmaggdbmaaGreatDoorQKt
import Derived.Test.YtnaagdmaggdbmaaGreatDoorQPlr
set_option linter.unusedVariables false
set_option linter.unusedSimpArgs false
namespace Go.Proofs.YtnaagdmaggdbmaaGreatDoor.lGuardRange
open Go.RowKit
set_option linter.unusedVariables false
set_option linter.unusedSimpArgs false
set_option maxRecDepth 1000000
theorem gu_parts {m V : Ma} {s p r c : Int} {O : Bool} (hV : rgV (guO s p r) (guV s p r) m c = V) (hO : (rgO (guO s p r) (guV s p r) m c).isSome = O) (ht : O = true) : ∃ n : Nat, c = n ∧ 1 ≤ n ∧ n ≤ 16 ∧ mav m = true ∧ (∀ k, k < n → guO s p r m k = true) ∧ V = guA s p r m n ∧ mav V = true := by
 by_cases h : mav m = true ∧ 1 ≤ c ∧ c ≤ 16
 ·obtain ⟨h1, h2, h3⟩ := h
  obtain ⟨n, rfl⟩ := Int.eq_ofNat_of_zero_le (show 0 ≤ c by omega)
  have h4 := rgO_yes (O := guO s p r) (V := guV s p r) h1 (show 1 ≤ n by omega) (show n ≤ 16 by omega)
  unfold rgV at hV
  rw [h4] at hV hO
  cases e : rgN (guO s p r) (guV s p r) m n with
  | none => rw [e] at hO; rw [ht] at hO; cases hO
  | some x =>
   rw [e] at hV
   have hx : x = V := hV
   subst hx
   obtain ⟨h5, h6⟩ := guA_of e
   exact ⟨n, rfl, by omega, by omega, h1, h5, h6, rgN_keep (P := fun x => mav x = true) (fun m' k h _ => mav_grd h) h1 n _ e⟩
 ·rw [rgO_no h] at hO
  rw [ht] at hO
  cases hO
theorem guF_key (s p r : Int) (n : Nat) (f : Fr) : (guF s p r n f).used = f.used ∧ (guF s p r n f).s = f.s ∧ (guF s p r n f).p = f.p ∧ (guF s p r n f).n = f.n := by unfold guF; split <;> exact ⟨rfl, rfl, rfl, rfl⟩
set_option maxHeartbeats 4000000 in
theorem walk (a0 : Option Addr) (len0 cap0 : Nat) (z0 : List Int) (w : World) (w0 : IsRow .u8 w a0 len0 cap0 z0) (hfree : Free w) :
  Calls Tryz.prog 5 #[.slice a0 len0 cap0] w fun e w' => e = .returned (.bool true) ∧ Below w.heap.size w w' := by
 by_cases hbig : 1048576 < len0
 ·go_enter Tryz.func5, Tryz.ntmps5
  go_wp2
  go_ret
  exact ⟨rfl, by repeat first | exact bR | refine bA ?_⟩
 have hcap := row_cap w0
 have hby := Lib.hid (row_bytes w0)
 have HF := Lib.hid hfree
 clear w0 hfree
 go_enter Tryz.func5, Tryz.ntmps5
 go_wp2_with fail
 refine (DrawGuardRange_any a0 len0 cap0 w hby.out hcap (by omega)).mono ?_
 rintro e w1 ⟨_, rfl, m, v1, v2, v3, v4, s, p, c, r, rfl, hM, hz, hss, hsp, hsc, hsr, hb1⟩
 obtain ⟨A1, c1, rfl, _⟩ := hM.t.b
 obtain ⟨A2, c2, rfl, _⟩ := hM.t.f
 obtain ⟨A3, c3, rfl, _⟩ := hM.l
 obtain ⟨A4, c4, rfl, _⟩ := hM.o
 have hx := (Own.new_ w1 34 #[.slice A1 m.t.bs.length c1, .slice A2 m.t.fs.length c2, .slice A3 m.c.ls.length c3, .int .i64 m.c.hand, .int .i64 m.g.count, .int .i64 m.g.next, .int .i64 m.g.round, .slice A4 m.g.os.length c4, .int .i64 m.sp]).alloc (o := .cells #[.int .i64 s, .int .i64 p] 36)
 have hk := ownAt (W := w1.alloc (.cells #[.slice A1 m.t.bs.length c1, .slice A2 m.t.fs.length c2, .slice A3 m.c.ls.length c3, .int .i64 m.c.hand, .int .i64 m.g.count, .int .i64 m.g.next, .int .i64 m.g.round, .slice A4 m.g.os.length c4, .int .i64 m.sp] 34)) (g := w1.heap.size + 1) (t := 36) (cs := #[.int .i64 s, .int .i64 p]) (by simp)
 have hb2 : Below w1.heap.size w1 ((w1.alloc (.cells #[.slice A1 m.t.bs.length c1, .slice A2 m.t.fs.length c2, .slice A3 m.c.ls.length c3, .int .i64 m.c.hand, .int .i64 m.g.count, .int .i64 m.g.next, .int .i64 m.g.round, .slice A4 m.g.os.length c4, .int .i64 m.sp] 34)).alloc (.cells #[.int .i64 s, .int .i64 p] 36)) := bA (bA bR)
 have hs2 : ((w1.alloc (.cells #[.slice A1 m.t.bs.length c1, .slice A2 m.t.fs.length c2, .slice A3 m.c.ls.length c3, .int .i64 m.c.hand, .int .i64 m.g.count, .int .i64 m.g.next, .int .i64 m.g.round, .slice A4 m.g.os.length c4, .int .i64 m.sp] 34)).alloc (.cells #[.int .i64 s, .int .i64 p] 36)).heap.size = w1.heap.size + 2 := by simp
 generalize hW2 : (w1.alloc (.cells #[.slice A1 m.t.bs.length c1, .slice A2 m.t.fs.length c2, .slice A3 m.c.ls.length c3, .int .i64 m.c.hand, .int .i64 m.g.count, .int .i64 m.g.next, .int .i64 m.g.round, .slice A4 m.g.os.length c4, .int .i64 m.sp] 34)).alloc (.cells #[.int .i64 s, .int .i64 p] 36) = w2 at hx hk hb2 hs2
 have HM := Lib.hid (hM.now hb2)
 have HX := Lib.hid hx
 have HK := Lib.hid hk
 have HB := Lib.hid (bT hb1 hb2)
 have hs1 := hb1.size
 clear hM hx hk hb1 hb2
 generalize hmb : w1.heap.size = mb at *
 obtain ⟨V, hV⟩ : ∃ V, rgV (guO s p r) (guV s p r) m c = V := ⟨_, rfl⟩
 obtain ⟨O, hO⟩ : ∃ O, (rgO (guO s p r) (guV s p r) m c).isSome = O := ⟨_, rfl⟩
 have KI : Hid (∀ W, Below w2.heap.size w2 W → Calls Tryz.prog 18 #[.agg #[.slice A1 m.t.bs.length c1, .slice A2 m.t.fs.length c2, .slice A3 m.c.ls.length c3, .int .i64 m.c.hand, .int .i64 m.g.count, .int .i64 m.g.next, .int .i64 m.g.round, .slice A4 m.g.os.length c4, .int .i64 m.sp], .agg #[.int .i64 s, .int .i64 p], .int .i64 c, .int .i64 r] W (Post2 fun v w' => ∃ v1 v2 v3 v4, v = .tuple #[.agg #[v1, v2, v3, .int .i64 V.c.hand, .int .i64 V.g.count, .int .i64 V.g.next, .int .i64 V.g.round, v4, .int .i64 V.sp], .bool O] ∧ MaM W.heap.size w' v1 v2 v3 v4 V ∧ Below W.heap.size W w')) := by
  intro W hb
  have hMr := (HM.out.now hb).r
  have hFr := HF.out.now (bT HB.out hb)
  subst hV hO
  exact GuardRange_any _ _ _ _ m s p c r W hMr hFr
 have KS : Hid (∀ W, Below w2.heap.size w2 W → Calls Tryz.prog 19 #[.agg #[.slice A1 m.t.bs.length c1, .slice A2 m.t.fs.length c2, .slice A3 m.c.ls.length c3, .int .i64 m.c.hand, .int .i64 m.g.count, .int .i64 m.g.next, .int .i64 m.g.round, .slice A4 m.g.os.length c4, .int .i64 m.sp], .agg #[.int .i64 s, .int .i64 p], .int .i64 c, .int .i64 r] W (Post2 fun v w' => ∃ v1 v2 v3 v4, v = .tuple #[.agg #[v1, v2, v3, .int .i64 V.c.hand, .int .i64 V.g.count, .int .i64 V.g.next, .int .i64 V.g.round, v4, .int .i64 V.sp], .bool O] ∧ MaM W.heap.size w' v1 v2 v3 v4 V ∧ Below W.heap.size W w')) := by
  intro W hb
  have hMr := (HM.out.now hb).r
  subst hV hO
  exact sGuardRange_any _ _ _ _ m s p c r W hMr (by have := hsp.1; have := hsp.2; omega)
 obtain ⟨p0a, p1a, p2a, p3a, p4a, p5a, p6a, p7a, p8a⟩ := cells9 HX.out
 have y0a := HK.out.cell_ 0 (v := .int .i64 s) rfl
 have y1a := HK.out.cell_ 1 (v := .int .i64 p) rfl
 go_wp2_with fail
 try rw [hW2]
 refine (KI.out w2 bR).mono ?_
 rintro e w3 ⟨_, rfl, u1, u2, u3, u4, rfl, hM3, hb3⟩
 clear hW2 KI p0a p1a p2a p3a p4a p5a p6a p7a p8a y0a y1a
 obtain ⟨B1, d1, rfl, _⟩ := hM3.t.b
 obtain ⟨B2, d2, rfl, _⟩ := hM3.t.f
 obtain ⟨B3, d3, rfl, _⟩ := hM3.l
 obtain ⟨B4, d4, rfl, _⟩ := hM3.o
 have hy := Own.new_ w3 34 #[.slice B1 V.t.bs.length d1, .slice B2 V.t.fs.length d2, .slice B3 V.c.ls.length d3, .int .i64 V.c.hand, .int .i64 V.g.count, .int .i64 V.g.next, .int .i64 V.g.round, .slice B4 V.g.os.length d4, .int .i64 V.sp]
 have hb4 : Below w3.heap.size w3 (w3.alloc (.cells #[.slice B1 V.t.bs.length d1, .slice B2 V.t.fs.length d2, .slice B3 V.c.ls.length d3, .int .i64 V.c.hand, .int .i64 V.g.count, .int .i64 V.g.next, .int .i64 V.g.round, .slice B4 V.g.os.length d4, .int .i64 V.sp] 34)) := bA bR
 generalize hW4 : w3.alloc (.cells #[.slice B1 V.t.bs.length d1, .slice B2 V.t.fs.length d2, .slice B3 V.c.ls.length d3, .int .i64 V.c.hand, .int .i64 V.g.count, .int .i64 V.g.next, .int .i64 V.g.round, .slice B4 V.g.os.length d4, .int .i64 V.sp] 34) = w4 at hy hb4
 have hbx := bT hb3 hb4
 try replace HM := Lib.hid (HM.out.now hbx)
 try replace HX := Lib.hid (HX.out.below hbx)
 try replace HK := Lib.hid (HK.out.below hbx)
 try replace HV := Lib.hid (HV.out.now hbx)
 try replace HY := Lib.hid (HY.out.below hbx)
 try replace HU := Lib.hid (HU.out.now hbx)
 try replace HZ := Lib.hid (HZ.out.below hbx)
 try replace HL := Lib.hid (HL.out.now hbx)
 try replace HE := Lib.hid (HE.out.now hbx)
 replace HB := Lib.hid (bT HB.out hbx)
 have HV := Lib.hid (hM3.now hb4)
 have HY := Lib.hid hy
 have hs3 := hb3.size
 clear hM3 hy hb4
 obtain ⟨p0a, p1a, p2a, p3a, p4a, p5a, p6a, p7a, p8a⟩ := cells9 HX.out
 have y0a := HK.out.cell_ 0 (v := .int .i64 s) rfl
 have y1a := HK.out.cell_ 1 (v := .int .i64 p) rfl
 go_wp2_with fail
 try rw [hW4]
 refine (KS.out w4 hbx).mono ?_
 rintro e w5 ⟨_, rfl, u1, u2, u3, u4, rfl, hM5, hb5⟩
 clear hbx
 clear hW4 KS hb3 p0a p1a p2a p3a p4a p5a p6a p7a p8a y0a y1a
 obtain ⟨C1, e1, rfl, _⟩ := hM5.t.b
 obtain ⟨C2, e2, rfl, _⟩ := hM5.t.f
 obtain ⟨C3, e3, rfl, _⟩ := hM5.l
 obtain ⟨C4, e4, rfl, _⟩ := hM5.o
 have hy := Own.new_ w5 34 #[.slice C1 V.t.bs.length e1, .slice C2 V.t.fs.length e2, .slice C3 V.c.ls.length e3, .int .i64 V.c.hand, .int .i64 V.g.count, .int .i64 V.g.next, .int .i64 V.g.round, .slice C4 V.g.os.length e4, .int .i64 V.sp]
 have hb6 : Below w5.heap.size w5 (w5.alloc (.cells #[.slice C1 V.t.bs.length e1, .slice C2 V.t.fs.length e2, .slice C3 V.c.ls.length e3, .int .i64 V.c.hand, .int .i64 V.g.count, .int .i64 V.g.next, .int .i64 V.g.round, .slice C4 V.g.os.length e4, .int .i64 V.sp] 34)) := bA bR
 generalize hW6 : w5.alloc (.cells #[.slice C1 V.t.bs.length e1, .slice C2 V.t.fs.length e2, .slice C3 V.c.ls.length e3, .int .i64 V.c.hand, .int .i64 V.g.count, .int .i64 V.g.next, .int .i64 V.g.round, .slice C4 V.g.os.length e4, .int .i64 V.sp] 34) = w6 at hy hb6
 have hbx := bT hb5 hb6
 try replace HM := Lib.hid (HM.out.now hbx)
 try replace HX := Lib.hid (HX.out.below hbx)
 try replace HK := Lib.hid (HK.out.below hbx)
 try replace HV := Lib.hid (HV.out.now hbx)
 try replace HY := Lib.hid (HY.out.below hbx)
 try replace HU := Lib.hid (HU.out.now hbx)
 try replace HZ := Lib.hid (HZ.out.below hbx)
 try replace HL := Lib.hid (HL.out.now hbx)
 try replace HE := Lib.hid (HE.out.now hbx)
 replace HB := Lib.hid (bT HB.out hbx)
 have HU := Lib.hid (hM5.now hb6)
 have HZ := Lib.hid hy
 have hs5 := hb5.size
 clear hM5 hy hb6
 obtain ⟨p0a, p1a, p2a, p3a, p4a, p5a, p6a, p7a, p8a⟩ := cells9 HY.out
 obtain ⟨p0b, p1b, p2b, p3b, p4b, p5b, p6b, p7b, p8b⟩ := cells9 HZ.out
 clear hb5 hbx
 go_wp2_with fail
 try rw [hW6]
 refine (MachineSame_same _ _ _ _ _ _ _ _ V w6 HV.out.r HU.out.r).mono ?_
 rintro e w7 ⟨rfl, hb7⟩
 clear hW6 p0a p1a p2a p3a p4a p5a p6a p7a p8a
 clear p0b p1b p2b p3b p4b p5b p6b p7b p8b
 try replace HM := Lib.hid (HM.out.now hb7)
 try replace HX := Lib.hid (HX.out.below hb7)
 try replace HK := Lib.hid (HK.out.below hb7)
 try replace HV := Lib.hid (HV.out.now hb7)
 try replace HY := Lib.hid (HY.out.below hb7)
 try replace HU := Lib.hid (HU.out.now hb7)
 try replace HZ := Lib.hid (HZ.out.below hb7)
 try replace HL := Lib.hid (HL.out.now hb7)
 try replace HE := Lib.hid (HE.out.now hb7)
 replace HB := Lib.hid (bT HB.out hb7)
 clear hb7
 cases O with
 | false =>
  obtain ⟨p0a, p1a, p2a, p3a, p4a, p5a, p6a, p7a, p8a⟩ := cells9 HY.out
  obtain ⟨p0b, p1b, p2b, p3b, p4b, p5b, p6b, p7b, p8b⟩ := cells9 HZ.out
  go_wp2_with fail
  refine (MachineSame_same _ _ _ _ _ _ _ _ V _ HV.out.r HU.out.r).mono ?_
  rintro e w8 ⟨rfl, hb8⟩
  replace HB := Lib.hid (bT HB.out hb8)
  go_wp2
  go_ret
  exact ⟨rfl, HB.out⟩
 | true =>
  obtain ⟨n, rfl, hn1, hn2, hmv, hgu, hVe, hVv⟩ := gu_parts hV hO rfl
  have hfs : V.t.fs = m.t.fs.map (guF s p r n) := by rw [hVe]; exact guA_fs hmv n hgu
  have hlen : V.t.fs.length = m.t.fs.length := by rw [hfs, List.length_map]
  replace hlen := Lib.hid hlen
  have hl16 : m.t.fs.length ≤ 1048576 := (mav_len hmv).2.1
  have HFS := Lib.hid hfs
  have HVV := Lib.hid hVv
  clear hV hO hgu hVe hfs hVv
  obtain ⟨p0a, p1a, p2a, p3a, p4a, p5a, p6a, p7a, p8a⟩ := cells9 HY.out
  go_wp2
  go_loopw [11] (fun u wr => ∃ k : Nat, k ≤ V.t.fs.length ∧ u = .int .i64 k ∧ Below w7.heap.size w7 wr) (fun u _ => V.t.fs.length - (intOf u).toNat)
  case atStart => exact ⟨0, by omega, rfl, bR⟩
  case round =>
   obtain ⟨k, hk, rfl, hbr⟩ := hrel
   try replace HM := Lib.hid (HM.out.now hbr)
   try replace HX := Lib.hid (HX.out.below hbr)
   try replace HK := Lib.hid (HK.out.below hbr)
   try replace HV := Lib.hid (HV.out.now hbr)
   try replace HY := Lib.hid (HY.out.below hbr)
   try replace HU := Lib.hid (HU.out.now hbr)
   try replace HZ := Lib.hid (HZ.out.below hbr)
   try replace HL := Lib.hid (HL.out.now hbr)
   try replace HE := Lib.hid (HE.out.now hbr)
   replace HB := Lib.hid (bT HB.out hbr)
   clear p0a p1a p2a p3a p4a p5a p6a p7a p8a
   obtain ⟨p0a, p1a, p2a, p3a, p4a, p5a, p6a, p7a, p8a⟩ := cells9 HY.out
   have hla := HY.out.lt
   have hlk := HK.out.lt
   have hlx := HX.out.lt
   by_cases hltV : k < V.t.fs.length
   ·have hlt : k < m.t.fs.length := by have := hlen.out; omega
    obtain ⟨x, ex⟩ : ∃ x, m.t.fs[k]? = some x := ⟨_, List.getElem?_eq_getElem hlt⟩
    have ey : V.t.fs[k]? = some (guF s p r n x) := by rw [HFS.out, List.getElem?_map, ex]; rfl
    obtain ⟨bq, oq, e1, hbq, y0, y1, y2, y3, y4⟩ := HV.out.r.t.fsl.fr ey
    subst e1
    obtain ⟨br, ow, e1, hbr2, x0, x1, x2, x3, x4⟩ := HM.out.r.t.fsl.fr ex
    subst e1
    have hki : (k : Int) < (V.t.fs.length : Int) := by omega
    have hk0 : (0 : Int) ≤ (k : Int) := by omega
    have hki2 : (k : Int) < (m.t.fs.length : Int) := by omega
    have HEX := Lib.hid ex
    clear ex ey
    go_upto_region 11 with fail
    obtain ⟨g1, g2, g3, g4⟩ := guF_key s p r n x
    rw [g1] at y0
    rw [g2] at y1
    rw [g3] at y2
    rw [g4] at y4
    clear g1 g2 g3 g4
    have hwp : Hid (IntKind.i64.wrap (p + (n : Int)) = p + n) := by have := hsp.1; have := hsp.2; exact IntWalk.i64_in _ (by omega)
    by_cases hin : x.used = true ∧ x.s = s ∧ p ≤ x.p ∧ x.p < p + n
    ·have hr3 : (guF s p r n x).r = r := by unfold guF; rw [if_pos hin]
     rw [hr3] at y3
     obtain ⟨i1, i2, i3, i4⟩ := hin
     rw [i1] at y0
     rw [i2] at y1
     have f3 := Lib.hid (decide_eq_true i3)
     have f4 := Lib.hid (decide_eq_true i4)
     clear x0 x1 x2 x3 x4 i2 hr3 i3 i4 i1
     have hf := Own.new_ wr 48 #[.bool true, .int .i64 s, .int .i64 x.p, .int .i64 r, .int .i64 x.n]
     have hbf : Below wr.heap.size wr (wr.alloc (.cells #[.bool true, .int .i64 s, .int .i64 x.p, .int .i64 r, .int .i64 x.n] 48)) := bA bR
     generalize hWF : wr.alloc (.cells #[.bool true, .int .i64 s, .int .i64 x.p, .int .i64 r, .int .i64 x.n] 48) = wf at hf hbf
     go_upto_region 12 with fail
     try rw [hWF]
     try replace HM := Lib.hid (HM.out.now hbf)
     try replace HX := Lib.hid (HX.out.below hbf)
     try replace HK := Lib.hid (HK.out.below hbf)
     try replace HV := Lib.hid (HV.out.now hbf)
     try replace HY := Lib.hid (HY.out.below hbf)
     try replace HU := Lib.hid (HU.out.now hbf)
     try replace HZ := Lib.hid (HZ.out.below hbf)
     try replace HL := Lib.hid (HL.out.now hbf)
     try replace HE := Lib.hid (HE.out.now hbf)
     replace HB := Lib.hid (bT HB.out hbf)
     have HF2 := Lib.hid hf
     have hbr3 := bT hbr hbf
     clear hf y0 y1 y2 y3 y4 hWF hbf
     clear p0a p1a p2a p3a p4a p5a p6a p7a p8a
     have q0 := HK.out.cell_ 0 (v := .int .i64 s) rfl
     have q1 := HK.out.cell_ 1 (v := .int .i64 p) rfl
     have y0 := HF2.out.cell_ 0 (v := .bool true) rfl
     have y1 := HF2.out.cell_ 1 (v := .int .i64 s) rfl
     have y2 := HF2.out.cell_ 2 (v := .int .i64 x.p) rfl
     have y3 := HF2.out.cell_ 3 (v := .int .i64 r) rfl
     have y4 := HF2.out.cell_ 4 (v := .int .i64 x.n) rfl
     replace hwp := hwp.out
     replace f3 := f3.out
     replace f4 := f4.out
     go_wp2
     go_quiet (fail)
     have hbr4 := bDN hbr3 (n := nq)
     go_wp2
     go_roundw
     case rel => exact ⟨k + 1, by omega, by simp, hbr4⟩
     case measure => simp [intOf]; omega
    ·have hr3 : guF s p r n x = x := by unfold guF; rw [if_neg hin]
     rw [hr3] at y3
     clear x0 x1 x2 x3 x4 hr3
     replace hin := Lib.hid hin
     have hf := Own.new_ wr 48 #[.bool x.used, .int .i64 x.s, .int .i64 x.p, .int .i64 x.r, .int .i64 x.n]
     have hbf : Below wr.heap.size wr (wr.alloc (.cells #[.bool x.used, .int .i64 x.s, .int .i64 x.p, .int .i64 x.r, .int .i64 x.n] 48)) := bA bR
     generalize hWF : wr.alloc (.cells #[.bool x.used, .int .i64 x.s, .int .i64 x.p, .int .i64 x.r, .int .i64 x.n] 48) = wf at hf hbf
     go_upto_region 12 with fail
     try rw [hWF]
     try replace HM := Lib.hid (HM.out.now hbf)
     try replace HX := Lib.hid (HX.out.below hbf)
     try replace HK := Lib.hid (HK.out.below hbf)
     try replace HV := Lib.hid (HV.out.now hbf)
     try replace HY := Lib.hid (HY.out.below hbf)
     try replace HU := Lib.hid (HU.out.now hbf)
     try replace HZ := Lib.hid (HZ.out.below hbf)
     try replace HL := Lib.hid (HL.out.now hbf)
     try replace HE := Lib.hid (HE.out.now hbf)
     replace HB := Lib.hid (bT HB.out hbf)
     have HF2 := Lib.hid hf
     have hbr3 := bT hbr hbf
     clear hf y0 y1 y2 y3 y4 hWF hbf
     clear p0a p1a p2a p3a p4a p5a p6a p7a p8a
     have q0 := HK.out.cell_ 0 (v := .int .i64 s) rfl
     have q1 := HK.out.cell_ 1 (v := .int .i64 p) rfl
     have y0 := HF2.out.cell_ 0 (v := .bool x.used) rfl
     have y1 := HF2.out.cell_ 1 (v := .int .i64 x.s) rfl
     have y2 := HF2.out.cell_ 2 (v := .int .i64 x.p) rfl
     have y3 := HF2.out.cell_ 3 (v := .int .i64 x.r) rfl
     have y4 := HF2.out.cell_ 4 (v := .int .i64 x.n) rfl
     replace hwp := hwp.out
     cases hu : x.used with
     | false =>
      rw [hu] at y0
      go_upto_region 13 with fail
      obtain ⟨p0b, p1b, p2b, p3b, p4b, p5b, p6b, p7b, p8b⟩ := cells9 HX.out
      obtain ⟨br2, ow2, e2, _, x0, x1, x2, x3, x4⟩ := HM.out.r.t.fsl.fr HEX.out
      injection e2 with e2
      injection e2 with e2 e3
      subst e2 e3
      rw [hu] at x0
      go_wp2
      go_quiet (fail)
      have hbr4 := bDN hbr3 (n := nq)
      go_wp2
      go_roundw
      case rel => exact ⟨k + 1, by omega, by simp, hbr4⟩
      case measure => simp [intOf]; omega
     | true =>
      rw [hu] at y0
      by_cases h2 : x.s = s
      ·have f2 : (x.s == s) = true := by rw [h2]; exact beq_self_eq_true s
       by_cases h3 : p ≤ x.p
       ·have f3 : decide (p ≤ x.p) = true := decide_eq_true h3
        have h4 : ¬ x.p < p + (n : Int) := fun h4 => hin.out ⟨hu, h2, h3, h4⟩
        have f4 : decide (x.p < p + (n : Int)) = false := decide_eq_false h4
        clear h2 h3 h4
        go_upto_region 13 with fail
        obtain ⟨p0b, p1b, p2b, p3b, p4b, p5b, p6b, p7b, p8b⟩ := cells9 HX.out
        obtain ⟨br2, ow2, e2, _, x0, x1, x2, x3, x4⟩ := HM.out.r.t.fsl.fr HEX.out
        injection e2 with e2
        injection e2 with e2 e3
        subst e2 e3
        rw [hu] at x0
        go_wp2
        go_quiet (fail)
        have hbr4 := bDN hbr3 (n := nq)
        go_wp2
        go_roundw
        case rel => exact ⟨k + 1, by omega, by simp, hbr4⟩
        case measure => simp [intOf]; omega
       ·have f3 : decide (p ≤ x.p) = false := decide_eq_false h3
        clear h2 h3
        go_upto_region 13 with fail
        obtain ⟨p0b, p1b, p2b, p3b, p4b, p5b, p6b, p7b, p8b⟩ := cells9 HX.out
        obtain ⟨br2, ow2, e2, _, x0, x1, x2, x3, x4⟩ := HM.out.r.t.fsl.fr HEX.out
        injection e2 with e2
        injection e2 with e2 e3
        subst e2 e3
        rw [hu] at x0
        go_wp2
        go_quiet (fail)
        have hbr4 := bDN hbr3 (n := nq)
        go_wp2
        go_roundw
        case rel => exact ⟨k + 1, by omega, by simp, hbr4⟩
        case measure => simp [intOf]; omega
      ·have f2 : (x.s == s) = false := beq_eq_false_iff_ne.2 h2
       clear h2
       go_upto_region 13 with fail
       obtain ⟨p0b, p1b, p2b, p3b, p4b, p5b, p6b, p7b, p8b⟩ := cells9 HX.out
       obtain ⟨br2, ow2, e2, _, x0, x1, x2, x3, x4⟩ := HM.out.r.t.fsl.fr HEX.out
       injection e2 with e2
       injection e2 with e2 e3
       subst e2 e3
       rw [hu] at x0
       go_wp2
       go_quiet (fail)
       have hbr4 := bDN hbr3 (n := nq)
       go_wp2
       go_roundw
       case rel => exact ⟨k + 1, by omega, by simp, hbr4⟩
       case measure => simp [intOf]; omega
   ·obtain rfl : k = V.t.fs.length := by omega
    have hki : decide ((V.t.fs.length : Int) < (V.t.fs.length : Int)) = false := by simp
    go_wp2_with fail
    refine (MachineValid_any _ _ _ _ V _ HV.out.r (HF.out.now HB.out)).mono ?_
    rintro e w8 ⟨rfl, hb8⟩
    replace HB := Lib.hid (bT HB.out hb8)
    rw [HVV.out]
    go_wp2
    go_ret
    exact ⟨rfl, HB.out⟩
end Go.Proofs.YtnaagdmaggdbmaaGreatDoor.lGuardRange
