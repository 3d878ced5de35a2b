/- A part of the proofs of this seat: EndP, LEt, LEtD, LEtE. -/
import Derived.Deep.CutRange
import Derived.ChangeSame
import Derived.Test.YtibpnlojlfcpmaaGreatDoorADs
import Derived.Test.YtibpnlojlfcpmaaGreatDoorATkG
import Derived.Test.YtibpnlojlfcpmaaGreatDoorAFilI
import Derived.Test.YtibpnlojlfcpmaaGreatDoorAEsI
set_option linter.unusedVariables false
set_option linter.unusedSimpArgs false
set_option maxRecDepth 1000000
namespace Go.Proofs.YtibpnlojlfcpmaaGreatDoor
open Go.RowKit
theorem end_twice {m : Ma} {s : Int} (h : endO m s = true) : endO (endV m s) s = true ∧ endV (endV m s) s = endV m s ∧ (∀ q, fnd (endV m s).t.fs s q = none) ∧
  (entO (endV m s) s = true → ∀ q, 0 ≤ q → q < 6 → tchO (entV (endV m s) s) q 0 = true ∧ tchR (entV (endV m s) s) q 0 = 3) := by
 obtain ⟨hm, ⟨hs1, hs2⟩, hsp, hv, hvsp, ht, htg, hlen, hfr⟩ := end_parts h
 have hgone : ∀ q, fnd (endV m s).t.fs s q = none := fun q => by
  cases e : fnd (endV m s).t.fs s q with
  | none => rfl
  | some j =>
   exfalso
   obtain ⟨y, ey, hu, hk⟩ := fnd_some e
   injection hk with hk1 hk2
   have hj := (List.getElem?_eq_some_iff.1 ey).1
   rw [hlen] at hj
   obtain ⟨z, ez, k1, k2⟩ := hfr j _ (List.getElem?_eq_getElem hj)
   rw [ey] at ez
   injection ez with ez
   subst ez
   by_cases hc : m.t.fs[j].used = true ∧ m.t.fs[j].s = s
   ·have := k1 hc.1 hc.2
    rw [hu] at this; cases this
   ·obtain ⟨d1, d2, _⟩ := k2 hc
    exact hc ⟨by rw [← d1]; exact hu, by rw [← d2]; exact hk1⟩
 have hO2 : endO (endV m s) s = true := by
  unfold endO
  rw [hv, hvsp, decide_eq_true hs1, decide_eq_true hs2, decide_eq_false hsp]
  rfl
 refine ⟨hO2, ?_, hgone, fun he q hq0 hq6 => ?_⟩
 ·have hp : pgs s (keysL (endV m s).t.fs) = [] := by
   refine List.eq_nil_iff_forall_not_mem.2 (fun q hq => ?_)
   obtain ⟨i, y, e1, e2, e3⟩ := keysL_mem.1 (pgs_mem.1 hq)
   have := (mav_MV.1 hv).t.fnd e1 e2 e3
   rw [hgone] at this
   cases this
  have hA : endA (endV m s) s = endV m s := by unfold endA; rw [hp]; rfl
  have hG : lvG (endV m s).g s = (endV m s).g := by unfold lvG; rw [htg]; rfl
  rw [endV_at hO2, hA, hG]
 ·obtain ⟨e1, e2, e3⟩ := mav_ent he
  have hO : tchO (entV (endV m s) s) q 0 = true := by
   unfold tchO
   rw [e1, inR_iff.2 ⟨hq0, by omega⟩]
   rfl
  refine ⟨hO, tch_gone hO ?_⟩
  rw [e2, e3]
  have : keyI s q = s := by unfold keyI; rw [if_neg (by omega)]
  rw [this]
  exact hgone q
end Go.Proofs.YtibpnlojlfcpmaaGreatDoor
namespace Go.Proofs.YtibpnlojlfcpmaaGreatDoor.lEndTwice
open Go.ChangeShapes Go.WideShapes Go.ChangeAt Go.RowKit Go.Joins
set_option maxRecDepth 100000 in
theorem closed : joinedFacts Tryz.prog 10 Tryz.f10 Rows.fnEndTwiceSpec Rows.fnEndTwiceRow = true := by
 unfold joinedFacts
 rw [may_enter, lifts_final, make_cut]
 refine Eq.trans ?_ (Eq.refl _)
 kernel_rfl
end Go.Proofs.YtibpnlojlfcpmaaGreatDoor.lEndTwice
namespace Go.Proofs.YtibpnlojlfcpmaaGreatDoor.lEndTwice
open Go.RowKit
set_option maxHeartbeats 4000000 in
theorem walk (a0 : Option Addr) (len0 cap0 : Nat) (z0 : List Int) (w : World) (w0 : IsRow .u8 w a0 len0 cap0 z0) (hfree : Free w) :
  Calls Tryz.prog 10 #[.slice a0 len0 cap0] w fun e w' => e = .returned (.bool true) ∧ Below w.heap.size w w' := by
 by_cases hbig : 1048576 < len0
 ·go_enter Tryz.func10, Tryz.ntmps10
  go_wp2
  go_ret
  exact ⟨rfl, by repeat first | exact bR | refine bA ?_⟩
 have hcap := row_cap w0
 have hby := Hd (row_bytes w0)
 have HF := Hd hfree
 clear w0 hfree
 go_enter Tryz.func10, Tryz.ntmps10
 go_wp2_with fail
 refine (DrawEndSpace_any a0 len0 cap0 w hby.out hcap (by omega)).mono ?_
 rintro e w1 ⟨_, rfl, m, v1, v2, v3, v4, s, rfl, hM, hz, hss, hb1⟩
 obtain ⟨A1, c1, rfl, _⟩ := hM.t.b
 obtain ⟨A2, c2, rfl, _⟩ := hM.t.f
 obtain ⟨A3, c3, rfl, _⟩ := hM.l
 obtain ⟨A4, c4, rfl, _⟩ := hM.o
 have hx := Own.new_ w1 48 #[.slice A1 m.t.bs.length c1, .slice A2 m.t.fs.length c2, .slice A3 m.c.ls.length c3, .int .i64 m.c.hand, .int .i64 m.g.count, .int .i64 m.g.next, .int .i64 m.g.round, .slice A4 m.g.os.length c4, .int .i64 m.sp]
 have hb2 : Below w1.heap.size w1 (w1.alloc (.cells #[.slice A1 m.t.bs.length c1, .slice A2 m.t.fs.length c2, .slice A3 m.c.ls.length c3, .int .i64 m.c.hand, .int .i64 m.g.count, .int .i64 m.g.next, .int .i64 m.g.round, .slice A4 m.g.os.length c4, .int .i64 m.sp] 48)) := bA bR
 have hs2 : (w1.alloc (.cells #[.slice A1 m.t.bs.length c1, .slice A2 m.t.fs.length c2, .slice A3 m.c.ls.length c3, .int .i64 m.c.hand, .int .i64 m.g.count, .int .i64 m.g.next, .int .i64 m.g.round, .slice A4 m.g.os.length c4, .int .i64 m.sp] 48)).heap.size = w1.heap.size + 1 := by simp
 generalize hW2 : w1.alloc (.cells #[.slice A1 m.t.bs.length c1, .slice A2 m.t.fs.length c2, .slice A3 m.c.ls.length c3, .int .i64 m.c.hand, .int .i64 m.g.count, .int .i64 m.g.next, .int .i64 m.g.round, .slice A4 m.g.os.length c4, .int .i64 m.sp] 48) = w2 at hx hb2 hs2
 have HM := Hd (hM.now hb2)
 have HX := Hd hx
 have HB := Hd (bT hb1 hb2)
 have hs1 := hb1.size
 clear hM hx hb1 hb2
 generalize hmb : w1.heap.size = mb at *
 obtain ⟨V, hV⟩ : ∃ V, endV m s = V := ⟨_, rfl⟩
 obtain ⟨O, hO⟩ : ∃ O, endO m s = O := ⟨_, rfl⟩
 have KI : Hid (∀ W, Below w2.heap.size w2 W → Calls Tryz.prog 27 #[.agg #[.slice A1 m.t.bs.length c1, .slice A2 m.t.fs.length c2, .slice A3 m.c.ls.length c3, .int .i64 m.c.hand, .int .i64 m.g.count, .int .i64 m.g.next, .int .i64 m.g.round, .slice A4 m.g.os.length c4, .int .i64 m.sp], .int .i64 s] W (Post2 fun v w' => ∃ v1 v2 v3 v4, v = .tuple #[.agg #[v1, v2, v3, .int .i64 V.c.hand, .int .i64 V.g.count, .int .i64 V.g.next, .int .i64 V.g.round, v4, .int .i64 V.sp], .bool O] ∧ MaM W.heap.size w' v1 v2 v3 v4 V ∧ Below W.heap.size W w')) := by
  intro W hb
  have hMr := (HM.out.now hb).r
  have hFr := HF.out.now (bT HB.out hb)
  subst hV hO
  exact EndSpace_any _ _ _ _ m s W hMr hFr
 have KS : Hid (∀ W, Below w2.heap.size w2 W → Calls Tryz.prog 28 #[.agg #[.slice A1 m.t.bs.length c1, .slice A2 m.t.fs.length c2, .slice A3 m.c.ls.length c3, .int .i64 m.c.hand, .int .i64 m.g.count, .int .i64 m.g.next, .int .i64 m.g.round, .slice A4 m.g.os.length c4, .int .i64 m.sp], .int .i64 s] W (Post2 fun v w' => ∃ v1 v2 v3 v4, v = .tuple #[.agg #[v1, v2, v3, .int .i64 V.c.hand, .int .i64 V.g.count, .int .i64 V.g.next, .int .i64 V.g.round, v4, .int .i64 V.sp], .bool O] ∧ MaM W.heap.size w' v1 v2 v3 v4 V ∧ Below W.heap.size W w')) := by
  intro W hb
  have hMr := (HM.out.now hb).r
  subst hV hO
  exact sEndSpace_any _ _ _ _ m s W hMr
 obtain ⟨p0a, p1a, p2a, p3a, p4a, p5a, p6a, p7a, p8a⟩ := cells9 HX.out
 go_wp2_with fail
 try rw [hW2]
 refine (KI.out w2 bR).mono ?_
 rintro e w3 ⟨_, rfl, u1, u2, u3, u4, rfl, hM3, hb3⟩
 clear hW2 KI p0a p1a p2a p3a p4a p5a p6a p7a p8a
 obtain ⟨B1, d1, rfl, _⟩ := hM3.t.b
 obtain ⟨B2, d2, rfl, _⟩ := hM3.t.f
 obtain ⟨B3, d3, rfl, _⟩ := hM3.l
 obtain ⟨B4, d4, rfl, _⟩ := hM3.o
 have hy := Own.new_ w3 48 #[.slice B1 V.t.bs.length d1, .slice B2 V.t.fs.length d2, .slice B3 V.c.ls.length d3, .int .i64 V.c.hand, .int .i64 V.g.count, .int .i64 V.g.next, .int .i64 V.g.round, .slice B4 V.g.os.length d4, .int .i64 V.sp]
 have hb4 : Below w3.heap.size w3 (w3.alloc (.cells #[.slice B1 V.t.bs.length d1, .slice B2 V.t.fs.length d2, .slice B3 V.c.ls.length d3, .int .i64 V.c.hand, .int .i64 V.g.count, .int .i64 V.g.next, .int .i64 V.g.round, .slice B4 V.g.os.length d4, .int .i64 V.sp] 48)) := bA bR
 generalize hW4 : w3.alloc (.cells #[.slice B1 V.t.bs.length d1, .slice B2 V.t.fs.length d2, .slice B3 V.c.ls.length d3, .int .i64 V.c.hand, .int .i64 V.g.count, .int .i64 V.g.next, .int .i64 V.g.round, .slice B4 V.g.os.length d4, .int .i64 V.sp] 48) = w4 at hy hb4
 have hbx := bT hb3 hb4
 try replace HM := Hd (HM.out.now hbx)
 try replace HX := Hd (HX.out.below hbx)
 try replace HK := Hd (HK.out.below hbx)
 try replace HV := Hd (HV.out.now hbx)
 try replace HY := Hd (HY.out.below hbx)
 try replace HU := Hd (HU.out.now hbx)
 try replace HZ := Hd (HZ.out.below hbx)
 try replace HL := Hd (HL.out.now hbx)
 try replace HE := Hd (HE.out.now hbx)
 replace HB := Hd (bT HB.out hbx)
 have HV := Hd (hM3.now hb4)
 have HY := Hd hy
 have hs3 := hb3.size
 clear hM3 hy hb4
 obtain ⟨p0a, p1a, p2a, p3a, p4a, p5a, p6a, p7a, p8a⟩ := cells9 HX.out
 go_wp2_with fail
 try rw [hW4]
 refine (KS.out w4 hbx).mono ?_
 rintro e w5 ⟨_, rfl, u1, u2, u3, u4, rfl, hM5, hb5⟩
 clear hbx
 clear hW4 KS hb3 p0a p1a p2a p3a p4a p5a p6a p7a p8a
 obtain ⟨C1, e1, rfl, _⟩ := hM5.t.b
 obtain ⟨C2, e2, rfl, _⟩ := hM5.t.f
 obtain ⟨C3, e3, rfl, _⟩ := hM5.l
 obtain ⟨C4, e4, rfl, _⟩ := hM5.o
 have hy := Own.new_ w5 48 #[.slice C1 V.t.bs.length e1, .slice C2 V.t.fs.length e2, .slice C3 V.c.ls.length e3, .int .i64 V.c.hand, .int .i64 V.g.count, .int .i64 V.g.next, .int .i64 V.g.round, .slice C4 V.g.os.length e4, .int .i64 V.sp]
 have hb6 : Below w5.heap.size w5 (w5.alloc (.cells #[.slice C1 V.t.bs.length e1, .slice C2 V.t.fs.length e2, .slice C3 V.c.ls.length e3, .int .i64 V.c.hand, .int .i64 V.g.count, .int .i64 V.g.next, .int .i64 V.g.round, .slice C4 V.g.os.length e4, .int .i64 V.sp] 48)) := bA bR
 generalize hW6 : w5.alloc (.cells #[.slice C1 V.t.bs.length e1, .slice C2 V.t.fs.length e2, .slice C3 V.c.ls.length e3, .int .i64 V.c.hand, .int .i64 V.g.count, .int .i64 V.g.next, .int .i64 V.g.round, .slice C4 V.g.os.length e4, .int .i64 V.sp] 48) = w6 at hy hb6
 have hbx := bT hb5 hb6
 try replace HM := Hd (HM.out.now hbx)
 try replace HX := Hd (HX.out.below hbx)
 try replace HK := Hd (HK.out.below hbx)
 try replace HV := Hd (HV.out.now hbx)
 try replace HY := Hd (HY.out.below hbx)
 try replace HU := Hd (HU.out.now hbx)
 try replace HZ := Hd (HZ.out.below hbx)
 try replace HL := Hd (HL.out.now hbx)
 try replace HE := Hd (HE.out.now hbx)
 replace HB := Hd (bT HB.out hbx)
 have HU := Hd (hM5.now hb6)
 have HZ := Hd hy
 have hs5 := hb5.size
 clear hM5 hy hb6
 obtain ⟨p0a, p1a, p2a, p3a, p4a, p5a, p6a, p7a, p8a⟩ := cells9 HY.out
 obtain ⟨p0b, p1b, p2b, p3b, p4b, p5b, p6b, p7b, p8b⟩ := cells9 HZ.out
 clear hb5 hbx 
 go_wp2_with fail
 try rw [hW6]
 refine (MachineSame_same _ _ _ _ _ _ _ _ V w6 HV.out.r HU.out.r).mono ?_
 rintro e w7 ⟨rfl, hb7⟩
 clear hW6 p0a p1a p2a p3a p4a p5a p6a p7a p8a
 clear p0b p1b p2b p3b p4b p5b p6b p7b p8b
 try replace HM := Hd (HM.out.now hb7)
 try replace HX := Hd (HX.out.below hb7)
 try replace HK := Hd (HK.out.below hb7)
 try replace HV := Hd (HV.out.now hb7)
 try replace HY := Hd (HY.out.below hb7)
 try replace HU := Hd (HU.out.now hb7)
 try replace HZ := Hd (HZ.out.below hb7)
 try replace HL := Hd (HL.out.now hb7)
 try replace HE := Hd (HE.out.now hb7)
 replace HB := Hd (bT HB.out hb7)
 clear hb7
 cases O with
 | false =>
  obtain ⟨p0a, p1a, p2a, p3a, p4a, p5a, p6a, p7a, p8a⟩ := cells9 HY.out
  obtain ⟨p0b, p1b, p2b, p3b, p4b, p5b, p6b, p7b, p8b⟩ := cells9 HZ.out
  go_wp2_with fail
  refine (MachineSame_same _ _ _ _ _ _ _ _ V _ HV.out.r HU.out.r).mono ?_
  rintro e w8 ⟨rfl, hb8⟩
  try replace HM := Hd (HM.out.now hb8)
  try replace HX := Hd (HX.out.below hb8)
  try replace HK := Hd (HK.out.below hb8)
  try replace HV := Hd (HV.out.now hb8)
  try replace HY := Hd (HY.out.below hb8)
  try replace HU := Hd (HU.out.now hb8)
  try replace HZ := Hd (HZ.out.below hb8)
  try replace HL := Hd (HL.out.now hb8)
  try replace HE := Hd (HE.out.now hb8)
  replace HB := Hd (bT HB.out hb8)
  go_wp2
  go_ret
  exact ⟨rfl, HB.out⟩
 | true =>
  obtain ⟨ht1, ht2, _, ht4⟩ := end_twice hO
  rw [hV] at ht1 ht2 ht4
  have K1 : Hid (∀ W, Below w7.heap.size w7 W → Calls Tryz.prog 27 #[.agg #[.slice B1 V.t.bs.length d1, .slice B2 V.t.fs.length d2, .slice B3 V.c.ls.length d3, .int .i64 V.c.hand, .int .i64 V.g.count, .int .i64 V.g.next, .int .i64 V.g.round, .slice B4 V.g.os.length d4, .int .i64 V.sp], .int .i64 s] W (Post2 fun v w' => ∃ v1 v2 v3 v4, v = .tuple #[.agg #[v1, v2, v3, .int .i64 V.c.hand, .int .i64 V.g.count, .int .i64 V.g.next, .int .i64 V.g.round, v4, .int .i64 V.sp], .bool true] ∧ MaM W.heap.size w' v1 v2 v3 v4 V ∧ Below W.heap.size W w')) := by
   intro W hb
   have h := EndSpace_any _ _ _ _ V s W (HV.out.now hb).r (HF.out.now (bT HB.out hb))
   rw [ht1, ht2] at h
   exact h
  have KE := Hd (fun W (hb : Below w7.heap.size w7 W) => EnterSpace_any _ _ _ _ V s W (HV.out.now hb).r (HF.out.now (bT HB.out hb)))
  have HA := Hd ht4
  obtain ⟨Ym, hYm⟩ : ∃ Y, entV V s = Y := ⟨_, rfl⟩
  obtain ⟨F, hFe⟩ : ∃ F, entO V s = F := ⟨_, rfl⟩
  rw [hYm, hFe] at KE HA
  clear hYm hFe hV hO ht1 ht2 ht4
  obtain ⟨p0y, p1y, p2y, p3y, p4y, p5y, p6y, p7y, p8y⟩ := cells9 HY.out
  go_wp2_with fail
  refine (K1.out w7 bR).mono ?_
  rintro e w9 ⟨_, rfl, u1, u2, u3, u4, rfl, hM9, hb9⟩
  obtain ⟨Q1, q1, rfl, _⟩ := hM9.t.b
  obtain ⟨Q2, q2, rfl, _⟩ := hM9.t.f
  obtain ⟨Q3, q3, rfl, _⟩ := hM9.l
  obtain ⟨Q4, q4, rfl, _⟩ := hM9.o
  obtain ⟨wX, hWX, hoX, hbX, _⟩ := box1 w9 #[.slice Q1 V.t.bs.length q1, .slice Q2 V.t.fs.length q2, .slice Q3 V.c.ls.length q3, .int .i64 V.c.hand, .int .i64 V.g.count, .int .i64 V.g.next, .int .i64 V.g.round, .slice Q4 V.g.os.length q4, .int .i64 V.sp] 48
  have hbx := bT hb9 hbX
  have HBX := Hd hbx
  try replace HM := Hd (HM.out.now hbx)
  try replace HX := Hd (HX.out.below hbx)
  try replace HK := Hd (HK.out.below hbx)
  try replace HV := Hd (HV.out.now hbx)
  try replace HY := Hd (HY.out.below hbx)
  try replace HU := Hd (HU.out.now hbx)
  try replace HZ := Hd (HZ.out.below hbx)
  try replace HL := Hd (HL.out.now hbx)
  try replace HE := Hd (HE.out.now hbx)
  replace HB := Hd (bT HB.out hbx)
  have HN := Hd (hM9.now hbX)
  have HP := Hd hoX
  have hlX := HP.out.lt
  clear hM9 hb9 hbX hoX hbx K1
  clear p0y p1y p2y p3y p4y p5y p6y p7y p8y
  go_upto_region 9 with fail
  try rw [hWX]
  clear hWX
  obtain ⟨p0y, p1y, p2y, p3y, p4y, p5y, p6y, p7y, p8y⟩ := cells9 HY.out
  go_wp2_with fail
  refine (KE.out wX HBX.out).mono ?_
  rintro e w11 ⟨_, rfl, u1, u2, u3, u4, rfl, hM11, hb11⟩
  obtain ⟨Y1, y1, rfl, _⟩ := hM11.t.b
  obtain ⟨Y2, y2, rfl, _⟩ := hM11.t.f
  obtain ⟨Y3, y3, rfl, _⟩ := hM11.l
  obtain ⟨Y4, y4, rfl, _⟩ := hM11.o
  obtain ⟨wY, hWY, hoY, hbY, _⟩ := box1 w11 #[.slice Y1 Ym.t.bs.length y1, .slice Y2 Ym.t.fs.length y2, .slice Y3 Ym.c.ls.length y3, .int .i64 Ym.c.hand, .int .i64 Ym.g.count, .int .i64 Ym.g.next, .int .i64 Ym.g.round, .slice Y4 Ym.g.os.length y4, .int .i64 Ym.sp] 48
  have hby := bT hb11 hbY
  try replace HM := Hd (HM.out.now hby)
  try replace HX := Hd (HX.out.below hby)
  try replace HK := Hd (HK.out.below hby)
  try replace HV := Hd (HV.out.now hby)
  try replace HY := Hd (HY.out.below hby)
  try replace HU := Hd (HU.out.now hby)
  try replace HZ := Hd (HZ.out.below hby)
  try replace HL := Hd (HL.out.now hby)
  try replace HE := Hd (HE.out.now hby)
  replace HB := Hd (bT HB.out hby)
  replace HN := Hd (HN.out.now hby)
  replace HP := Hd (HP.out.below hby)
  have HLQ := Hd (hM11.now hbY)
  have HQ := Hd hoY
  have hlY := HQ.out.lt
  clear hM11 hb11 hbY hoY hby KE HBX hlX
  clear p0y p1y p2y p3y p4y p5y p6y p7y p8y
  go_upto_region 10 with fail
  try rw [hWY]
  clear hWY
  go_wp2
  go_loopw [13] (fun u wr => ∃ k : Nat, k ≤ 6 ∧ u = .int .i64 k ∧ Below wY.heap.size wY wr) (fun u _ => 6 - (intOf u).toNat)
  case atStart => exact ⟨0, by omega, rfl, bR⟩
  case round =>
   obtain ⟨k, hk, rfl, hbr⟩ := hrel
   try replace HM := Hd (HM.out.now hbr)
   try replace HX := Hd (HX.out.below hbr)
   try replace HK := Hd (HK.out.below hbr)
   try replace HV := Hd (HV.out.now hbr)
   try replace HY := Hd (HY.out.below hbr)
   try replace HU := Hd (HU.out.now hbr)
   try replace HZ := Hd (HZ.out.below hbr)
   try replace HL := Hd (HL.out.now hbr)
   try replace HE := Hd (HE.out.now hbr)
   replace HB := Hd (bT HB.out hbr)
   replace HN := Hd (HN.out.now hbr)
   replace HP := Hd (HP.out.below hbr)
   replace HLQ := Hd (HLQ.out.now hbr)
   replace HQ := Hd (HQ.out.below hbr)
   by_cases hlt : k < 6
   ·have hki : (k : Int) < 6 := by omega
    cases F with
    | false =>
     clear hbr hlt hk
     clear HA HLQ
     obtain ⟨p0p, p1p, p2p, p3p, p4p, p5p, p6p, p7p, p8p⟩ := cells9 HP.out
     obtain ⟨p0y, p1y, p2y, p3y, p4y, p5y, p6y, p7y, p8y⟩ := cells9 HY.out
     go_wp2_with fail
     refine (MachineSame_same _ _ _ _ _ _ _ _ V _ HN.out.r HV.out.r).mono ?_
     rintro e w15 ⟨rfl, hb15⟩
     have HBE := Hd (bT HB.out hb15)
     clear p0p p1p p2p p3p p4p p5p p6p p7p p8p
     clear p0y p1y p2y p3y p4y p5y p6y p7y p8y
     go_wp2
     go_ret
     exact ⟨rfl, HBE.out⟩
    | true =>
    obtain ⟨ha1, ha2⟩ := HA.out rfl (k : Int) (by omega) hki
    obtain ⟨p0r, p1r, p2r, p3r, p4r, p5r, p6r, p7r, p8r⟩ := cells9 HQ.out
    go_wp2_with fail
    refine (TouchPage_any _ _ _ _ Ym (k : Int) 0 wr HLQ.out.r (HF.out.now HB.out)).mono ?_
    rintro e w13 ⟨_, rfl, u1, u2, u3, u4, rfl, hM13, hb13⟩
    rw [ha1, ha2]
    generalize tchV Ym (k : Int) 0 = Zm at hM13 ⊢
    generalize tchF Ym (k : Int) 0 = zf
    obtain ⟨Z1, z1, rfl, _⟩ := hM13.t.b
    obtain ⟨Z2, z2, rfl, _⟩ := hM13.t.f
    obtain ⟨Z3, z3, rfl, _⟩ := hM13.l
    obtain ⟨Z4, z4, rfl, _⟩ := hM13.o
    obtain ⟨wZ, hWZ, hoZ, hbZ, _⟩ := box1 w13 #[.slice Z1 Zm.t.bs.length z1, .slice Z2 Zm.t.fs.length z2, .slice Z3 Zm.c.ls.length z3, .int .i64 Zm.c.hand, .int .i64 Zm.g.count, .int .i64 Zm.g.next, .int .i64 Zm.g.round, .slice Z4 Zm.g.os.length z4, .int .i64 Zm.sp] 48
    have HBR := Hd (bT hbr (bT hb13 hbZ))
    clear hM13 hb13 hbZ hoZ hbr ha1 ha2 HA HN HP HLQ HQ
    clear p0r p1r p2r p3r p4r p5r p6r p7r p8r
    go_upto_region 14 with fail
    try rw [hWZ]
    clear hWZ
    go_wp2
    go_roundw
    case rel => exact ⟨k + 1, by omega, by simp, HBR.out⟩
    case measure => simp [intOf]; omega
   ·obtain rfl : k = 6 := by omega
    clear hbr hlt hk
    clear HA HLQ
    obtain ⟨p0p, p1p, p2p, p3p, p4p, p5p, p6p, p7p, p8p⟩ := cells9 HP.out
    obtain ⟨p0y, p1y, p2y, p3y, p4y, p5y, p6y, p7y, p8y⟩ := cells9 HY.out
    go_wp2_with fail
    refine (MachineSame_same _ _ _ _ _ _ _ _ V _ HN.out.r HV.out.r).mono ?_
    rintro e w15 ⟨rfl, hb15⟩
    have HBE := Hd (bT HB.out hb15)
    clear p0p p1p p2p p3p p4p p5p p6p p7p p8p
    clear p0y p1y p2y p3y p4y p5y p6y p7y p8y
    go_wp2
    go_ret
    exact ⟨rfl, HBE.out⟩
end Go.Proofs.YtibpnlojlfcpmaaGreatDoor.lEndTwice
namespace Go.Proofs.YtibpnlojlfcpmaaGreatDoor.lEndTwice
open Go.ChangeShapes Go.WideShapes Go.ChangeAt Go.RowKit Go.Joins
set_option maxRecDepth 100000 in
theorem lifted (os : Os) (started : os.Started) (H : Type) (enc : TypeId × Value → H) :
  ReturnsInHanded {} Tryz.checked os 10 .any (fun w args => (Rows.fnEndTwiceSpec.pre enc Tryz.prog Tryz.f10 Rows.fnEndTwiceRow.domain false w args ∧ laidMet Tryz.prog [("loop.example/invertedpages/impl.free", Rows.laid_loop_example_invertedpages_impl_free)] w) ∧ sizedMet enc Tryz.prog Tryz.f10 (OpenSpec.ofChange Rows.fnEndTwiceSpec) false w args)
   (Rows.fnEndTwiceSpec.post enc Tryz.prog Tryz.f10 false true false false) := by
 refine returnsInHanded_of_change_and (C := Tryz.checked) (X := fun w _ => laidMet Tryz.prog [("loop.example/invertedpages/impl.free", Rows.laid_loop_example_invertedpages_impl_free)] w) (fun _ _ _ hh h => h.of_heap hh) own_ started (by kernel_rfl) Tryz.func10
  (ChangeSpec.witness_at (enc := enc) (C := Tryz.checked) (os := os) (X := fun w _ => laidMet Tryz.prog [("loop.example/invertedpages/impl.free", Rows.laid_loop_example_invertedpages_impl_free)] w) false (laidWorld os) #[.slice none 0 0] 8 rfl (by kernel_rfl) (by kernel_rfl) (by kernel_rfl) (by kernel_rfl) (by kernel_rfl) (laid_met os _)) ?_
 intro W base args ds gs before hval0 hW hcnd _ hL _
 have hval : ∀ (j : Nat) t v, Tryz.f10.params[j]? = some t → args[j]? = some v → Value.okWide Tryz.prog W .any base t v := hval0
 have hW' := hW
 obtain ⟨p, q, hA0, hV0, rfl, hfz, hnd⟩ := hW
 have hA : DataW.TrodAll enc Tryz.prog W 0 (fun _ => true) true Tryz.f10.params.toList args.toList ds p := hA0
 have hV : DataW.TrodVars enc Tryz.prog W (fun _ => true) ["loop.example/invertedpages/impl.free"] gs q := hV0
 rw [Tryz.params10] at hA hval
 obtain ⟨v0, vs0, d0, ds0, p0, q0, hargs, rfl, rfl, h0, r0⟩ := trodAll_cons hA
 obtain ⟨rfl, rfl, rfl⟩ := trodAll_nil r0
 obtain rfl : args = #[v0] := by cases args; simp_all
 obtain ⟨hvar0, hfree⟩ := free_of_laid hL
 obtain ⟨g, t, cs, fuel, d, p', rfl, hg, ht, hvar, hd, rfl⟩ := trodVars_one hV
 obtain rfl := Option.some.inj (free_named.symm.trans hg)
 obtain rfl := Option.some.inj (free_type.symm.trans ht)
 obtain rfl : cs = freeCells := Option.some.inj (hvar.symm.trans hvar0)
 have k0 := h0
 have lt0 : ∀ x ∈ p0, x.block < W.heap.size := by obtain ⟨m, hm⟩ := k0; exact DataW.trod_lt m _ _ _ hm
 have kd : DataW.Trod enc Tryz.prog W 0 (fun _ => true) true 66 (.agg freeCells) d p' := ⟨fuel, hd⟩
 have ltd : ∀ x ∈ p', x.block < W.heap.size := DataW.trod_lt fuel _ _ _ hd
 obtain ⟨a0, len0, cap0, rfl⟩ := okWide_slice Tryz.underlying55 (hval 0 55 v0 rfl rfl)
 obtain ⟨z0, w0⟩ : ∃ zs, IsRow .u8 W a0 len0 cap0 zs := by
  obtain ⟨fuel, hf⟩ := h0
  rcases open_ints Tryz.underlying55 Tryz.underlying5 (by kernel_rfl) hf with ⟨hcs, _⟩ | ⟨x, l, c, zs, hcs, _, hl, hm, hz, _, hcell, hwz⟩
  ·simp [Value.cells] at hcs
   obtain ⟨rfl, rfl, rfl⟩ := hcs
   exact ⟨[], .inl ⟨rfl, rfl, rfl, rfl⟩⟩
  ·simp [Value.cells] at hcs
   obtain ⟨rfl, rfl, rfl⟩ := hcs
   exact ⟨zs, .inr ⟨_, rfl, hl, hm, by simpa using hz, hcell, hwz⟩⟩
 clear hA0 hV0 hval0
 refine (walk a0 len0 cap0 z0 W w0 hfree).mono fun e W' ⟨he, bel⟩ => ?_
 subst he
 have hvar' := var_stays hg hvar bel (Nat.le_refl _)
 obtain ⟨fuel', hd'⟩ := Below.trod laidOut (by kernel_rfl) (of_decide_eq_true (by kernel_rfl)) kd bel ltd
 exact ⟨_, rfl, _, _, _, [], _, _, hW', trodAll_mk1 (shut_bool Tryz.underlying4 _), (trodAll_cons_mk (Below.trod laidOut (by kernel_rfl) (of_decide_eq_true (by kernel_rfl)) k0 bel lt0) trodAll_mk0), ⟨0, 66, freeCells, fuel', _, _, hg, ht, hvar', hd', rfl, rfl⟩, bel.frame _, fun h => by cases h⟩
theorem over : Rows.fnEndTwiceRow.holds Tryz.pinned (OpenSpec.ofChange Rows.fnEndTwiceSpec) :=
 OpenClaim.holds_of_wide 10 Tryz.f10 rfl rfl rfl rfl rfl rfl rfl ⟨rfl, rfl, rfl, rfl, rfl⟩ rfl rfl rfl rfl rfl (by kernel_rfl) Tryz.func10 closed
  (of_decide_eq_true (by kernel_rfl)) (by unfold Func.isWrapper; rw [if_neg (of_decide_eq_false (by kernel_rfl))]; exact ⟨rfl, rfl⟩)
  (fun os started H enc _ => lifted os started H enc)
end Go.Proofs.YtibpnlojlfcpmaaGreatDoor.lEndTwice
