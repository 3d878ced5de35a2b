/- A part of the proofs of this seat: LFb1, LBn. -/
import Derived.Deep.CutRange
import Derived.Test.YtnaagdmaggdbmaaGreatDoorFCp6
import Derived.Test.YtnaagdmaggdbmaaGreatDoorFPrI
import Derived.Test.YtnaagdmaggdbmaaGreatDoorFKeep
import Derived.Test.YtnaagdmaggdbmaaGreatDoorFTchP
import Derived.Test.YtnaagdmaggdbmaaGreatDoorFWpP
import Derived.Test.YtnaagdmaggdbmaaGreatDoorFKp
import Derived.Test.YtnaagdmaggdbmaaGreatDoorFFb
set_option linter.unusedVariables false
set_option linter.unusedSimpArgs false
namespace Go.Proofs.YtnaagdmaggdbmaaGreatDoor.lFindByte
open Go.RowKit
set_option linter.unusedVariables false
set_option linter.unusedSimpArgs false
set_option maxRecDepth 1000000
theorem fnd_kval {t : Tab} {s p : Int} (h : tv t = true) (hf : 0 ≤ fndI t.fs s p) : kval (s, p) = true := by
 obtain ⟨k, h1, h2⟩ := fndI_fnd hf
 obtain ⟨f, ef, hu, hk⟩ := fnd_some h2
 have h3 := (tv_TV.1 h).ok k f ef
 unfold frok at h3
 rw [if_pos hu, Bool.and_eq_true] at h3
 rw [← hk]
 exact h3.1
theorem fnd_lt {fs : List Fr} {s p : Int} (hf : 0 ≤ fndI fs s p) : fndI fs s p < fs.length := by
 obtain ⟨k, h1, h2⟩ := fndI_fnd hf
 obtain ⟨f, ef, _⟩ := fnd_some h2
 have := (List.getElem?_eq_some_iff.1 ef).1
 omega
theorem fb_found {m V : Ma} {p o n AT OC : Int} (hV : fbV m p o n = V) (hA : fbA m p o n = AT) (hR : fbR m p o n = OC) (hO : fbO m p o n = true) :
  mav V = true ∧ V = tchV m p n ∧ OC = tchR m p n ∧ tchO m p n = true ∧ (OC = 1 ∨ OC = 2 ∨ OC = 3 ∨ OC = 4) ∧ ((OC = 3 ∨ OC = 4) → AT = 0) ∧ (¬ (OC = 3 ∨ OC = 4) → tpO m.t m.sp p n = true ∧ fOK m.t (keyI m.sp p) p = true ∧ ∃ k o' : Nat, fndI m.t.fs (keyI m.sp p) p = k ∧ o = o' ∧ o' < 64 ∧ k < 16 ∧ AT = ((k * 64 + o' : Nat) : Int) ∧ tchF m p n = k) := by
 obtain ⟨h1, h2⟩ := fbO_yes hO
 obtain ⟨h3, h4⟩ := fbO_parts hO
 obtain ⟨r1, r2⟩ := tch_R h3
 have hm := (tchO_parts h3).1
 have htv : tv m.t = true := (mav_parts (mav_MV.2 hm)).1
 have e1 : V = tchV m p n := by rw [← hV, h1]
 have e2 : OC = tchR m p n := by rw [← hR, h2]
 refine ⟨by rw [e1]; exact mav_tch h3, e1, e2, h3, ?_, fun h => ?_, fun h => ?_⟩
 ·cases ht : tpO m.t m.sp p n with
  | true => obtain ⟨h, _⟩ := r1 ht; rw [e2]; omega
  | false => have h := r2 ht; rw [e2]; omega
 ·rw [← hA]; exact fbA_stop (by rw [← e2]; exact h)
 ·cases ht : tpO m.t m.sp p n with
  | false => have h5 := r2 ht; rw [← e2] at h5; exact absurd h5 h
  | true =>
   obtain ⟨_, h6⟩ := r1 ht
   have h7 : 0 ≤ fndI m.t.fs (keyI m.sp p) p := by unfold tpO at ht; rw [Bool.and_eq_true] at ht; exact of_decide_eq_true ht.1
   obtain ⟨k, hk⟩ := Int.eq_ofNat_of_zero_le h7
   have ho : 0 ≤ o ∧ o < 64 := by unfold inR at h4; simp at h4; omega
   obtain ⟨o', ho'⟩ := Int.eq_ofNat_of_zero_le ho.1
   have hl := fnd_lt h7
   have hl16 : m.t.fs.length ≤ 16 := by obtain ⟨⟨_, hfl, _⟩, _⟩ := tv_parts htv; omega
   have h8 : tchF m p n = k := by rw [h6]; exact hk
   refine ⟨rfl, by rw [fOK_iff]; exact ⟨htv, fnd_kval htv h7, h7⟩, k, o', hk, ho', by omega, by omega, ?_, h8⟩
   rw [← hA, fbA_go hO (by rw [← e2]; exact h), h8, ho']
   omega
set_option maxHeartbeats 4000000 in
theorem walk (a0 : Option Addr) (len0 cap0 : Nat) (z0 : List Int) (w : World) (w0 : IsRow .u8 w a0 len0 cap0 z0) (hfree : Free w) :
    Calls Tryz.prog 8 #[.slice a0 len0 cap0] w fun e w' => e = .returned (.bool true) ∧ Below w.heap.size w w' := by
  by_cases hbig : 1048576 < len0
  · go_enter Tryz.func8, Tryz.ntmps8
    go_wp2
    go_ret
    exact ⟨rfl, by repeat first | exact bR | refine bA ?_⟩
  have hcap := row_cap w0
  have hby := Lib.hid (row_bytes w0)
  have HF := Lib.hid hfree
  clear w0 hfree
  go_enter Tryz.func8, Tryz.ntmps8
  go_wp2_with fail
  refine (DrawFindByte_any a0 len0 cap0 w hby.out hcap (by omega)).mono ?_
  rintro e w1 ⟨_, rfl, m, v1, v2, v3, v4, p, o, n, rfl, hM, hz, hsp, hso, hsn, hb1⟩
  obtain ⟨A1, c1, rfl, _⟩ := hM.t.b
  obtain ⟨A2, c2, rfl, _⟩ := hM.t.f
  obtain ⟨A3, c3, rfl, _⟩ := hM.l
  obtain ⟨A4, c4, rfl, _⟩ := hM.o
  have hx := Own.new_ w1 34 #[.slice A1 m.t.bs.length c1, .slice A2 m.t.fs.length c2, .slice A3 m.c.ls.length c3, .int .i64 m.c.hand, .int .i64 m.g.count, .int .i64 m.g.next, .int .i64 m.g.round, .slice A4 m.g.os.length c4, .int .i64 m.sp]
  have hb2 : Below w1.heap.size w1 (w1.alloc (.cells #[.slice A1 m.t.bs.length c1, .slice A2 m.t.fs.length c2, .slice A3 m.c.ls.length c3, .int .i64 m.c.hand, .int .i64 m.g.count, .int .i64 m.g.next, .int .i64 m.g.round, .slice A4 m.g.os.length c4, .int .i64 m.sp] 34)) := bA bR
  have hs2 : (w1.alloc (.cells #[.slice A1 m.t.bs.length c1, .slice A2 m.t.fs.length c2, .slice A3 m.c.ls.length c3, .int .i64 m.c.hand, .int .i64 m.g.count, .int .i64 m.g.next, .int .i64 m.g.round, .slice A4 m.g.os.length c4, .int .i64 m.sp] 34)).heap.size = w1.heap.size + 1 := by simp
  generalize hW2 : w1.alloc (.cells #[.slice A1 m.t.bs.length c1, .slice A2 m.t.fs.length c2, .slice A3 m.c.ls.length c3, .int .i64 m.c.hand, .int .i64 m.g.count, .int .i64 m.g.next, .int .i64 m.g.round, .slice A4 m.g.os.length c4, .int .i64 m.sp] 34) = w2 at hx hb2 hs2
  have HM := Lib.hid (hM.now hb2)
  have HX := Lib.hid hx
  have HB := Lib.hid (bT hb1 hb2)
  have hs1 := hb1.size
  clear hM hx hb1 hb2
  generalize hmb : w1.heap.size = mb at *
  obtain ⟨V, hV⟩ : ∃ V, fbV m p o n = V := ⟨_, rfl⟩
  obtain ⟨AT, hAt⟩ : ∃ x, fbA m p o n = x := ⟨_, rfl⟩
  obtain ⟨OC, hOc⟩ : ∃ x, fbR m p o n = x := ⟨_, rfl⟩
  obtain ⟨O, hO⟩ : ∃ x, fbO m p o n = x := ⟨_, rfl⟩
  have KI : Hid (∀ W, Below w2.heap.size w2 W → Calls Tryz.prog 27 #[.agg #[.slice A1 m.t.bs.length c1, .slice A2 m.t.fs.length c2, .slice A3 m.c.ls.length c3, .int .i64 m.c.hand, .int .i64 m.g.count, .int .i64 m.g.next, .int .i64 m.g.round, .slice A4 m.g.os.length c4, .int .i64 m.sp], .int .i64 p, .int .i64 o, .int .i64 n] W (Post2 fun v w' => ∃ v1 v2 v3 v4, v = .tuple #[.agg #[v1, v2, v3, .int .i64 V.c.hand, .int .i64 V.g.count, .int .i64 V.g.next, .int .i64 V.g.round, v4, .int .i64 V.sp], .int .i64 AT, .int .i64 OC, .bool O] ∧ MaM W.heap.size w' v1 v2 v3 v4 V ∧ Below W.heap.size W w')) := by
    intro W hb
    have hMr := (HM.out.now hb).r
    have hFr := HF.out.now (bT HB.out hb)
    subst hV hO hAt hOc
    exact FindByte_any _ _ _ _ m p o n W hMr hFr
  have KS : Hid (∀ W, Below w2.heap.size w2 W → Calls Tryz.prog 28 #[.agg #[.slice A1 m.t.bs.length c1, .slice A2 m.t.fs.length c2, .slice A3 m.c.ls.length c3, .int .i64 m.c.hand, .int .i64 m.g.count, .int .i64 m.g.next, .int .i64 m.g.round, .slice A4 m.g.os.length c4, .int .i64 m.sp], .int .i64 p, .int .i64 o, .int .i64 n] W (Post2 fun v w' => ∃ v1 v2 v3 v4, v = .tuple #[.agg #[v1, v2, v3, .int .i64 V.c.hand, .int .i64 V.g.count, .int .i64 V.g.next, .int .i64 V.g.round, v4, .int .i64 V.sp], .int .i64 AT, .int .i64 OC, .bool O] ∧ MaM W.heap.size w' v1 v2 v3 v4 V ∧ Below W.heap.size W w')) := by
    intro W hb
    have hMr := (HM.out.now hb).r
    subst hV hO hAt hOc
    exact sFindByte_any _ _ _ _ m p o n W hMr
  obtain ⟨p0a, p1a, p2a, p3a, p4a, p5a, p6a, p7a, p8a⟩ := cells9 HX.out
  go_wp2_with fail
  try rw [hW2]
  refine (KI.out w2 bR).mono ?_
  rintro e w3 ⟨_, rfl, u1, u2, u3, u4, rfl, hM3, hb3⟩
  clear hW2 KI p0a p1a p2a p3a p4a p5a p6a p7a p8a
  obtain ⟨B1, d1, rfl, _⟩ := hM3.t.b
  obtain ⟨B2, d2, rfl, _⟩ := hM3.t.f
  obtain ⟨B3, d3, rfl, _⟩ := hM3.l
  obtain ⟨B4, d4, rfl, _⟩ := hM3.o
  have hy := Own.new_ w3 34 #[.slice B1 V.t.bs.length d1, .slice B2 V.t.fs.length d2, .slice B3 V.c.ls.length d3, .int .i64 V.c.hand, .int .i64 V.g.count, .int .i64 V.g.next, .int .i64 V.g.round, .slice B4 V.g.os.length d4, .int .i64 V.sp]
  have hb4 : Below w3.heap.size w3 (w3.alloc (.cells #[.slice B1 V.t.bs.length d1, .slice B2 V.t.fs.length d2, .slice B3 V.c.ls.length d3, .int .i64 V.c.hand, .int .i64 V.g.count, .int .i64 V.g.next, .int .i64 V.g.round, .slice B4 V.g.os.length d4, .int .i64 V.sp] 34)) := bA bR
  generalize hW4 : w3.alloc (.cells #[.slice B1 V.t.bs.length d1, .slice B2 V.t.fs.length d2, .slice B3 V.c.ls.length d3, .int .i64 V.c.hand, .int .i64 V.g.count, .int .i64 V.g.next, .int .i64 V.g.round, .slice B4 V.g.os.length d4, .int .i64 V.sp] 34) = w4 at hy hb4
  have hbx := bT hb3 hb4
  try replace HM := Lib.hid (HM.out.now hbx)
  try replace HX := Lib.hid (HX.out.below hbx)
  try replace HK := Lib.hid (HK.out.below hbx)
  try replace HV := Lib.hid (HV.out.now hbx)
  try replace HY := Lib.hid (HY.out.below hbx)
  try replace HU := Lib.hid (HU.out.now hbx)
  try replace HZ := Lib.hid (HZ.out.below hbx)
  try replace HL := Lib.hid (HL.out.now hbx)
  try replace HE := Lib.hid (HE.out.now hbx)
  replace HB := Lib.hid (bT HB.out hbx)
  have HV := Lib.hid (hM3.now hb4)
  have HY := Lib.hid hy
  have hs3 := hb3.size
  clear hM3 hy hb4
  obtain ⟨p0a, p1a, p2a, p3a, p4a, p5a, p6a, p7a, p8a⟩ := cells9 HX.out
  go_wp2_with fail
  try rw [hW4]
  refine (KS.out w4 hbx).mono ?_
  rintro e w5 ⟨_, rfl, u1, u2, u3, u4, rfl, hM5, hb5⟩
  clear hbx
  clear hW4 KS hb3 p0a p1a p2a p3a p4a p5a p6a p7a p8a
  obtain ⟨C1, e1, rfl, _⟩ := hM5.t.b
  obtain ⟨C2, e2, rfl, _⟩ := hM5.t.f
  obtain ⟨C3, e3, rfl, _⟩ := hM5.l
  obtain ⟨C4, e4, rfl, _⟩ := hM5.o
  have hy := Own.new_ w5 34 #[.slice C1 V.t.bs.length e1, .slice C2 V.t.fs.length e2, .slice C3 V.c.ls.length e3, .int .i64 V.c.hand, .int .i64 V.g.count, .int .i64 V.g.next, .int .i64 V.g.round, .slice C4 V.g.os.length e4, .int .i64 V.sp]
  have hb6 : Below w5.heap.size w5 (w5.alloc (.cells #[.slice C1 V.t.bs.length e1, .slice C2 V.t.fs.length e2, .slice C3 V.c.ls.length e3, .int .i64 V.c.hand, .int .i64 V.g.count, .int .i64 V.g.next, .int .i64 V.g.round, .slice C4 V.g.os.length e4, .int .i64 V.sp] 34)) := bA bR
  generalize hW6 : w5.alloc (.cells #[.slice C1 V.t.bs.length e1, .slice C2 V.t.fs.length e2, .slice C3 V.c.ls.length e3, .int .i64 V.c.hand, .int .i64 V.g.count, .int .i64 V.g.next, .int .i64 V.g.round, .slice C4 V.g.os.length e4, .int .i64 V.sp] 34) = w6 at hy hb6
  have hbx := bT hb5 hb6
  try replace HM := Lib.hid (HM.out.now hbx)
  try replace HX := Lib.hid (HX.out.below hbx)
  try replace HK := Lib.hid (HK.out.below hbx)
  try replace HV := Lib.hid (HV.out.now hbx)
  try replace HY := Lib.hid (HY.out.below hbx)
  try replace HU := Lib.hid (HU.out.now hbx)
  try replace HZ := Lib.hid (HZ.out.below hbx)
  try replace HL := Lib.hid (HL.out.now hbx)
  try replace HE := Lib.hid (HE.out.now hbx)
  replace HB := Lib.hid (bT HB.out hbx)
  have HU := Lib.hid (hM5.now hb6)
  have HZ := Lib.hid hy
  have hs5 := hb5.size
  clear hM5 hy hb6
  obtain ⟨p0a, p1a, p2a, p3a, p4a, p5a, p6a, p7a, p8a⟩ := cells9 HY.out
  obtain ⟨p0b, p1b, p2b, p3b, p4b, p5b, p6b, p7b, p8b⟩ := cells9 HZ.out
  clear hb5 hbx
  go_wp2_with fail
  try rw [hW6]
  refine (MachineSame_same _ _ _ _ _ _ _ _ V w6 HV.out.r HU.out.r).mono ?_
  rintro e w7 ⟨rfl, hb7⟩
  clear hW6 p0a p1a p2a p3a p4a p5a p6a p7a p8a
  clear p0b p1b p2b p3b p4b p5b p6b p7b p8b
  try replace HM := Lib.hid (HM.out.now hb7)
  try replace HX := Lib.hid (HX.out.below hb7)
  try replace HK := Lib.hid (HK.out.below hb7)
  try replace HV := Lib.hid (HV.out.now hb7)
  try replace HY := Lib.hid (HY.out.below hb7)
  try replace HU := Lib.hid (HU.out.now hb7)
  try replace HZ := Lib.hid (HZ.out.below hb7)
  try replace HL := Lib.hid (HL.out.now hb7)
  try replace HE := Lib.hid (HE.out.now hb7)
  replace HB := Lib.hid (bT HB.out hb7)
  clear hb7
  cases O with
  | false =>
    obtain ⟨p0a, p1a, p2a, p3a, p4a, p5a, p6a, p7a, p8a⟩ := cells9 HY.out
    obtain ⟨p0b, p1b, p2b, p3b, p4b, p5b, p6b, p7b, p8b⟩ := cells9 HZ.out
    go_wp2_with fail
    refine (MachineSame_same _ _ _ _ _ _ _ _ V _ HV.out.r HU.out.r).mono ?_
    rintro e w8 ⟨rfl, hb8⟩
    replace HB := Lib.hid (bT HB.out hb8)
    go_wp2
    go_ret
    exact ⟨rfl, HB.out⟩
  | true =>
    obtain ⟨hmv, hVe, hOe, htO, hO4, hst, hgo⟩ := fb_found hV hAt hOc hO
    have HMV := Lib.hid hmv
    clear hV hAt hOc hO hVe hOe htO hmv
    by_cases hs : OC = 3 ∨ OC = 4
    · have hat := hst hs
      subst hat
      clear hst hgo hO4
      obtain ⟨p0a, p1a, p2a, p3a, p4a, p5a, p6a, p7a, p8a⟩ := cells9 HY.out
      rcases hs with rfl | rfl
      · go_wp2_with fail
        refine (MachineValid_any _ _ _ _ V _ HV.out.r (HF.out.now HB.out)).mono ?_
        rintro e w8 ⟨rfl, hb8⟩
        replace HB := Lib.hid (bT HB.out hb8)
        rw [HMV.out]
        go_wp2
        go_ret
        exact ⟨rfl, HB.out⟩
      · go_wp2_with fail
        refine (MachineValid_any _ _ _ _ V _ HV.out.r (HF.out.now HB.out)).mono ?_
        rintro e w8 ⟨rfl, hb8⟩
        replace HB := Lib.hid (bT HB.out hb8)
        rw [HMV.out]
        go_wp2
        go_ret
        exact ⟨rfl, HB.out⟩
    · obtain ⟨_, hfo, k, o', hk, ho', ho64, hk16, hAT, _⟩ := hgo hs
      have h3 : (OC == 3) = false := beq_eq_false_iff_ne.2 (fun h => hs (.inl h))
      have h4 : (OC == 4) = false := beq_eq_false_iff_ne.2 (fun h => hs (.inr h))
      have HFP := Lib.hid (fun W (h : TaR W (.slice A1 m.t.bs.length c1) (.slice A2 m.t.fs.length c2) m.t) (hf : Free W) => FindPage_any _ _ m.t (keyI m.sp p) p W h hf)
      have hfi : fpI m.t (keyI m.sp p) p = (k : Int) := by unfold fpI; rw [if_pos hfo, hk]
      have hq : ∀ W, (binOp .quo 3 (.int .i64 ((k : Int) * 64 + (o' : Int))) (.int .i64 64)).run Tryz.prog W = .ok (.int .i64 (k : Int)) W := fun W => by
        have h := quo_nat (k * 64 + o') 64 (by omega) (by omega) W
        rw [show (k * 64 + o') / 64 = k by omega, show ((k * 64 + o' : Nat) : Int) = (k : Int) * 64 + (o' : Int) by omega] at h
        exact h
      have hr : ∀ W, (binOp .rem 3 (.int .i64 ((k : Int) * 64 + (o' : Int))) (.int .i64 64)).run Tryz.prog W = .ok (.int .i64 (o' : Int)) W := fun W => by
        have h := rem_nat (k * 64 + o') 64 (by omega) W
        rw [show (k * 64 + o') % 64 = o' by omega, show ((k * 64 + o' : Nat) : Int) = (k : Int) * 64 + (o' : Int) by omega] at h
        exact h
      rw [show ((k * 64 + o' : Nat) : Int) = (k : Int) * 64 + (o' : Int) by omega] at hAT
      subst hAT ho'
      have HQ := Lib.hid hq
      have HRM := Lib.hid hr
      have HKF := Lib.hid (fun W => post2_of (KeyFor_any m.sp p W))
      clear hst hgo hO4 hs hk hq hr
      obtain ⟨p0a, p1a, p2a, p3a, p4a, p5a, p6a, p7a, p8a⟩ := cells9 HX.out
      go_upto_region 10 with fail
      go_region_held_law (fun w' => w'.cell? ⟨mb, 0, none⟩ = some (.slice A1 m.t.bs.length c1) ∧ w'.cell? ⟨mb, 1, none⟩ = some (.slice A2 m.t.fs.length c2) ∧ w'.cell? ⟨mb, 8, none⟩ = some (.int .i64 m.sp)) (go_keep) (first
        | (go_at_call 29
           refine (HKF.out _).mono ?_
           rintro _ w8 ⟨_, rfl, rfl, hb8⟩
           have HB8 := Lib.hid (bT (bD (bR (w := w7))) hb8)
           have hx8 := HX.out.below HB8.out
           have d0 := hx8.cell_ 0 (v := .slice A1 m.t.bs.length c1) rfl
           have d1 := hx8.cell_ 1 (v := .slice A2 m.t.fs.length c2) rfl
           have d8 := hx8.cell_ 8 (v := .int .i64 m.sp) rfl
           clear hx8 hb8)
        | (go_at_call 25
           refine (HFP.out _ (HM.out.now HB8.out).r.t (HF.out.now (bT HB.out HB8.out))).mono ?_
           rintro _ w9 ⟨_, rfl, nst, rfl, hb9⟩
           rw [hfo, hfi]
           have HB9 := Lib.hid (bT HB8.out hb9)
           have hx9 := HX.out.below HB9.out
           have e0 := hx9.cell_ 0 (v := .slice A1 m.t.bs.length c1) rfl
           have e1' := hx9.cell_ 1 (v := .slice A2 m.t.fs.length c2) rfl
           have e8 := hx9.cell_ 8 (v := .int .i64 m.sp) rfl
           clear hx9 hb9 d0 d1 d8))
      all_goals
        clear p0a p1a p2a p3a p4a p5a p6a p7a p8a
        clear e0 e1' e8
        have hbq := HB9.out
        try replace HM := Lib.hid (HM.out.now hbq)
        try replace HX := Lib.hid (HX.out.below hbq)
        try replace HK := Lib.hid (HK.out.below hbq)
        try replace HV := Lib.hid (HV.out.now hbq)
        try replace HY := Lib.hid (HY.out.below hbq)
        try replace HU := Lib.hid (HU.out.now hbq)
        try replace HZ := Lib.hid (HZ.out.below hbq)
        try replace HL := Lib.hid (HL.out.now hbq)
        try replace HE := Lib.hid (HE.out.now hbq)
        replace HB := Lib.hid (bT HB.out hbq)
        obtain ⟨p0a, p1a, p2a, p3a, p4a, p5a, p6a, p7a, p8a⟩ := cells9 HY.out
        go_wp2_with fail
        refine (MachineValid_any _ _ _ _ V _ HV.out.r (HF.out.now HB.out)).mono ?_
        rintro e w10 ⟨rfl, hb10⟩
        replace HB := Lib.hid (bT HB.out hb10)
        rw [HMV.out]
        have HE : Hid (((o' : Int) % 64 == (o' : Int)) = true) := by show _ = _; rw [beq_iff_eq]; omega
        replace HQ := HQ.out
        replace HRM := HRM.out
        clear p0a p1a p2a p3a p4a p5a p6a p7a p8a
        go_wp2
        go_ret
        exact ⟨congrArg (fun b => Ending.returned (.bool b)) HE.out, HB.out⟩
end Go.Proofs.YtnaagdmaggdbmaaGreatDoor.lFindByte
namespace Go.Proofs.YtnaagdmaggdbmaaGreatDoor.lByteNext
open Go.RowKit
set_option linter.unusedVariables false
set_option linter.unusedSimpArgs false
set_option maxRecDepth 1000000
open lFindByte
set_option maxHeartbeats 4000000 in
theorem walk (a0 : Option Addr) (len0 cap0 : Nat) (z0 : List Int) (w : World) (w0 : IsRow .u8 w a0 len0 cap0 z0) (hfree : Free w) :
  Calls Tryz.prog 7 #[.slice a0 len0 cap0] w fun e w' => e = .returned (.bool true) ∧ Below w.heap.size w w' := by
 by_cases hbig : 1048576 < len0
 ·go_enter Tryz.func7, Tryz.ntmps7
  go_wp2
  go_ret
  exact ⟨rfl, by repeat first | exact bR | refine bA ?_⟩
 have hcap := row_cap w0
 have hby := Lib.hid (row_bytes w0)
 have HF := Lib.hid hfree
 clear w0 hfree
 go_enter Tryz.func7, Tryz.ntmps7
 go_wp2_with fail
 refine (DrawFindByte_any a0 len0 cap0 w hby.out hcap (by omega)).mono ?_
 rintro e w1 ⟨_, rfl, m, v1, v2, v3, v4, p, o, n, rfl, hM, hz, hsp, hso, hsn, hb1⟩
 obtain ⟨A1, c1, rfl, _⟩ := hM.t.b
 obtain ⟨A2, c2, rfl, _⟩ := hM.t.f
 obtain ⟨A3, c3, rfl, _⟩ := hM.l
 obtain ⟨A4, c4, rfl, _⟩ := hM.o
 have hx := Own.new_ w1 34 #[.slice A1 m.t.bs.length c1, .slice A2 m.t.fs.length c2, .slice A3 m.c.ls.length c3, .int .i64 m.c.hand, .int .i64 m.g.count, .int .i64 m.g.next, .int .i64 m.g.round, .slice A4 m.g.os.length c4, .int .i64 m.sp]
 have hb2 : Below w1.heap.size w1 (w1.alloc (.cells #[.slice A1 m.t.bs.length c1, .slice A2 m.t.fs.length c2, .slice A3 m.c.ls.length c3, .int .i64 m.c.hand, .int .i64 m.g.count, .int .i64 m.g.next, .int .i64 m.g.round, .slice A4 m.g.os.length c4, .int .i64 m.sp] 34)) := bA bR
 have hs2 : (w1.alloc (.cells #[.slice A1 m.t.bs.length c1, .slice A2 m.t.fs.length c2, .slice A3 m.c.ls.length c3, .int .i64 m.c.hand, .int .i64 m.g.count, .int .i64 m.g.next, .int .i64 m.g.round, .slice A4 m.g.os.length c4, .int .i64 m.sp] 34)).heap.size = w1.heap.size + 1 := by simp
 generalize hW2 : w1.alloc (.cells #[.slice A1 m.t.bs.length c1, .slice A2 m.t.fs.length c2, .slice A3 m.c.ls.length c3, .int .i64 m.c.hand, .int .i64 m.g.count, .int .i64 m.g.next, .int .i64 m.g.round, .slice A4 m.g.os.length c4, .int .i64 m.sp] 34) = w2 at hx hb2 hs2
 have HM := Lib.hid (hM.now hb2)
 have HX := Lib.hid hx
 have HB := Lib.hid (bT hb1 hb2)
 have hs1 := hb1.size
 clear hM hx hb1 hb2
 generalize hmb : w1.heap.size = mb at *
 obtain ⟨V, hV⟩ : ∃ V, fbV m p o n = V := ⟨_, rfl⟩
 obtain ⟨AT, hAt⟩ : ∃ x, fbA m p o n = x := ⟨_, rfl⟩
 obtain ⟨OC, hOc⟩ : ∃ x, fbR m p o n = x := ⟨_, rfl⟩
 obtain ⟨O, hO⟩ : ∃ x, fbO m p o n = x := ⟨_, rfl⟩
 have KI : Hid (∀ W, Below w2.heap.size w2 W → Calls Tryz.prog 27 #[.agg #[.slice A1 m.t.bs.length c1, .slice A2 m.t.fs.length c2, .slice A3 m.c.ls.length c3, .int .i64 m.c.hand, .int .i64 m.g.count, .int .i64 m.g.next, .int .i64 m.g.round, .slice A4 m.g.os.length c4, .int .i64 m.sp], .int .i64 p, .int .i64 o, .int .i64 n] W (Post2 fun v w' => ∃ v1 v2 v3 v4, v = .tuple #[.agg #[v1, v2, v3, .int .i64 V.c.hand, .int .i64 V.g.count, .int .i64 V.g.next, .int .i64 V.g.round, v4, .int .i64 V.sp], .int .i64 AT, .int .i64 OC, .bool O] ∧ MaM W.heap.size w' v1 v2 v3 v4 V ∧ Below W.heap.size W w')) := by
  intro W hb
  have hMr := (HM.out.now hb).r
  have hFr := HF.out.now (bT HB.out hb)
  subst hV hO hAt hOc
  exact FindByte_any _ _ _ _ m p o n W hMr hFr
 have KS : Hid (∀ W, Below w2.heap.size w2 W → Calls Tryz.prog 28 #[.agg #[.slice A1 m.t.bs.length c1, .slice A2 m.t.fs.length c2, .slice A3 m.c.ls.length c3, .int .i64 m.c.hand, .int .i64 m.g.count, .int .i64 m.g.next, .int .i64 m.g.round, .slice A4 m.g.os.length c4, .int .i64 m.sp], .int .i64 p, .int .i64 o, .int .i64 n] W (Post2 fun v w' => ∃ v1 v2 v3 v4, v = .tuple #[.agg #[v1, v2, v3, .int .i64 V.c.hand, .int .i64 V.g.count, .int .i64 V.g.next, .int .i64 V.g.round, v4, .int .i64 V.sp], .int .i64 AT, .int .i64 OC, .bool O] ∧ MaM W.heap.size w' v1 v2 v3 v4 V ∧ Below W.heap.size W w')) := by
  intro W hb
  have hMr := (HM.out.now hb).r
  subst hV hO hAt hOc
  exact sFindByte_any _ _ _ _ m p o n W hMr
 obtain ⟨p0a, p1a, p2a, p3a, p4a, p5a, p6a, p7a, p8a⟩ := cells9 HX.out
 go_wp2_with fail
 try rw [hW2]
 refine (KI.out w2 bR).mono ?_
 rintro e w3 ⟨_, rfl, u1, u2, u3, u4, rfl, hM3, hb3⟩
 clear hW2 KI p0a p1a p2a p3a p4a p5a p6a p7a p8a
 obtain ⟨B1, d1, rfl, _⟩ := hM3.t.b
 obtain ⟨B2, d2, rfl, _⟩ := hM3.t.f
 obtain ⟨B3, d3, rfl, _⟩ := hM3.l
 obtain ⟨B4, d4, rfl, _⟩ := hM3.o
 have hy := Own.new_ w3 34 #[.slice B1 V.t.bs.length d1, .slice B2 V.t.fs.length d2, .slice B3 V.c.ls.length d3, .int .i64 V.c.hand, .int .i64 V.g.count, .int .i64 V.g.next, .int .i64 V.g.round, .slice B4 V.g.os.length d4, .int .i64 V.sp]
 have hb4 : Below w3.heap.size w3 (w3.alloc (.cells #[.slice B1 V.t.bs.length d1, .slice B2 V.t.fs.length d2, .slice B3 V.c.ls.length d3, .int .i64 V.c.hand, .int .i64 V.g.count, .int .i64 V.g.next, .int .i64 V.g.round, .slice B4 V.g.os.length d4, .int .i64 V.sp] 34)) := bA bR
 generalize hW4 : w3.alloc (.cells #[.slice B1 V.t.bs.length d1, .slice B2 V.t.fs.length d2, .slice B3 V.c.ls.length d3, .int .i64 V.c.hand, .int .i64 V.g.count, .int .i64 V.g.next, .int .i64 V.g.round, .slice B4 V.g.os.length d4, .int .i64 V.sp] 34) = w4 at hy hb4
 have hbx := bT hb3 hb4
 try replace HM := Lib.hid (HM.out.now hbx)
 try replace HX := Lib.hid (HX.out.below hbx)
 try replace HK := Lib.hid (HK.out.below hbx)
 try replace HV := Lib.hid (HV.out.now hbx)
 try replace HY := Lib.hid (HY.out.below hbx)
 try replace HU := Lib.hid (HU.out.now hbx)
 try replace HZ := Lib.hid (HZ.out.below hbx)
 try replace HL := Lib.hid (HL.out.now hbx)
 try replace HE := Lib.hid (HE.out.now hbx)
 replace HB := Lib.hid (bT HB.out hbx)
 have HV := Lib.hid (hM3.now hb4)
 have HY := Lib.hid hy
 have hs3 := hb3.size
 clear hM3 hy hb4
 obtain ⟨p0a, p1a, p2a, p3a, p4a, p5a, p6a, p7a, p8a⟩ := cells9 HX.out
 go_wp2_with fail
 try rw [hW4]
 refine (KS.out w4 hbx).mono ?_
 rintro e w5 ⟨_, rfl, u1, u2, u3, u4, rfl, hM5, hb5⟩
 clear hbx
 clear hW4 KS hb3 p0a p1a p2a p3a p4a p5a p6a p7a p8a
 obtain ⟨C1, e1, rfl, _⟩ := hM5.t.b
 obtain ⟨C2, e2, rfl, _⟩ := hM5.t.f
 obtain ⟨C3, e3, rfl, _⟩ := hM5.l
 obtain ⟨C4, e4, rfl, _⟩ := hM5.o
 have hy := Own.new_ w5 34 #[.slice C1 V.t.bs.length e1, .slice C2 V.t.fs.length e2, .slice C3 V.c.ls.length e3, .int .i64 V.c.hand, .int .i64 V.g.count, .int .i64 V.g.next, .int .i64 V.g.round, .slice C4 V.g.os.length e4, .int .i64 V.sp]
 have hb6 : Below w5.heap.size w5 (w5.alloc (.cells #[.slice C1 V.t.bs.length e1, .slice C2 V.t.fs.length e2, .slice C3 V.c.ls.length e3, .int .i64 V.c.hand, .int .i64 V.g.count, .int .i64 V.g.next, .int .i64 V.g.round, .slice C4 V.g.os.length e4, .int .i64 V.sp] 34)) := bA bR
 generalize hW6 : w5.alloc (.cells #[.slice C1 V.t.bs.length e1, .slice C2 V.t.fs.length e2, .slice C3 V.c.ls.length e3, .int .i64 V.c.hand, .int .i64 V.g.count, .int .i64 V.g.next, .int .i64 V.g.round, .slice C4 V.g.os.length e4, .int .i64 V.sp] 34) = w6 at hy hb6
 have hbx := bT hb5 hb6
 try replace HM := Lib.hid (HM.out.now hbx)
 try replace HX := Lib.hid (HX.out.below hbx)
 try replace HK := Lib.hid (HK.out.below hbx)
 try replace HV := Lib.hid (HV.out.now hbx)
 try replace HY := Lib.hid (HY.out.below hbx)
 try replace HU := Lib.hid (HU.out.now hbx)
 try replace HZ := Lib.hid (HZ.out.below hbx)
 try replace HL := Lib.hid (HL.out.now hbx)
 try replace HE := Lib.hid (HE.out.now hbx)
 replace HB := Lib.hid (bT HB.out hbx)
 have HU := Lib.hid (hM5.now hb6)
 have HZ := Lib.hid hy
 have hs5 := hb5.size
 clear hM5 hy hb6
 obtain ⟨p0a, p1a, p2a, p3a, p4a, p5a, p6a, p7a, p8a⟩ := cells9 HY.out
 obtain ⟨p0b, p1b, p2b, p3b, p4b, p5b, p6b, p7b, p8b⟩ := cells9 HZ.out
 clear hb5 hbx
 go_wp2_with fail
 try rw [hW6]
 refine (MachineSame_same _ _ _ _ _ _ _ _ V w6 HV.out.r HU.out.r).mono ?_
 rintro e w7 ⟨rfl, hb7⟩
 clear hW6 p0a p1a p2a p3a p4a p5a p6a p7a p8a
 clear p0b p1b p2b p3b p4b p5b p6b p7b p8b
 try replace HM := Lib.hid (HM.out.now hb7)
 try replace HX := Lib.hid (HX.out.below hb7)
 try replace HK := Lib.hid (HK.out.below hb7)
 try replace HV := Lib.hid (HV.out.now hb7)
 try replace HY := Lib.hid (HY.out.below hb7)
 try replace HU := Lib.hid (HU.out.now hb7)
 try replace HZ := Lib.hid (HZ.out.below hb7)
 try replace HL := Lib.hid (HL.out.now hb7)
 try replace HE := Lib.hid (HE.out.now hb7)
 replace HB := Lib.hid (bT HB.out hb7)
 clear hb7
 cases O with
 | false =>
  obtain ⟨p0a, p1a, p2a, p3a, p4a, p5a, p6a, p7a, p8a⟩ := cells9 HY.out
  obtain ⟨p0b, p1b, p2b, p3b, p4b, p5b, p6b, p7b, p8b⟩ := cells9 HZ.out
  go_wp2_with fail
  refine (MachineSame_same _ _ _ _ _ _ _ _ V _ HV.out.r HU.out.r).mono ?_
  rintro e w8 ⟨rfl, hb8⟩
  replace HB := Lib.hid (bT HB.out hb8)
  go_wp2
  go_ret
  exact ⟨rfl, HB.out⟩
 | true =>
  obtain ⟨hmv, hVe, hOe, htO, hO4, hst, hgo⟩ := fb_found hV hAt hOc hO
  by_cases hs : OC = 3 ∨ OC = 4
  ·have h2 : decide (2 < OC) = true := by simp; omega
   clear hV hAt hOc hO hVe hOe htO hmv hst hgo hO4 hs
   obtain ⟨p0a, p1a, p2a, p3a, p4a, p5a, p6a, p7a, p8a⟩ := cells9 HY.out
   obtain ⟨p0b, p1b, p2b, p3b, p4b, p5b, p6b, p7b, p8b⟩ := cells9 HZ.out
   go_wp2_with fail
   refine (MachineSame_same _ _ _ _ _ _ _ _ V _ HV.out.r HU.out.r).mono ?_
   rintro e w8 ⟨rfl, hb8⟩
   replace HB := Lib.hid (bT HB.out hb8)
   go_wp2
   go_ret
   exact ⟨rfl, HB.out⟩
  ·obtain ⟨htp, hfo, k, o', hk, ho', ho64, hk16, hAT, hF⟩ := hgo hs
   have h2 : decide (2 < OC) = false := by simp; omega
   obtain ⟨g1, g2, g3, g4⟩ := tch_again htO htp
   rw [← hVe] at g1 g2 g3 g4
   have hb1 : ∀ q : Int, inR q 64 = true → fbO V p q n = true ∧ fbV V p q n = V ∧ fbR V p q n = 1 ∧ fbA V p q n = (k : Int) * 64 + q := fun q hq => by
    have e0 : fbO V p q n = true := by unfold fbO; rw [g1, hq]; rfl
    obtain ⟨e1, e2⟩ := fbO_yes e0
    exact ⟨e0, by rw [e1, g2], by rw [e2, g3], by rw [fbA_go e0 (by rw [g3]; omega), g4, hF]⟩
   have K9 : Hid (∀ q : Int, inR q 64 = true → ∀ W, Below w7.heap.size w7 W → Calls Tryz.prog 27 #[.agg #[.slice B1 V.t.bs.length d1, .slice B2 V.t.fs.length d2, .slice B3 V.c.ls.length d3, .int .i64 V.c.hand, .int .i64 V.g.count, .int .i64 V.g.next, .int .i64 V.g.round, .slice B4 V.g.os.length d4, .int .i64 V.sp], .int .i64 p, .int .i64 q, .int .i64 n] W (Post2 fun v w' => ∃ v1 v2 v3 v4, v = .tuple #[.agg #[v1, v2, v3, .int .i64 V.c.hand, .int .i64 V.g.count, .int .i64 V.g.next, .int .i64 V.g.round, v4, .int .i64 V.sp], .int .i64 ((k : Int) * 64 + q), .int .i64 1, .bool true] ∧ MaM W.heap.size w' v1 v2 v3 v4 V ∧ Below W.heap.size W w')) := by
    intro q hq W hb
    have h := FindByte_any _ _ _ _ V p q n W (HV.out.now hb).r (HF.out.now (bT HB.out hb))
    obtain ⟨e1, e2, e3, e4⟩ := hb1 q hq
    rw [e1, e2, e3, e4] at h
    exact h
   rw [show ((k * 64 + o' : Nat) : Int) = (k : Int) * 64 + (o' : Int) by omega] at hAT
   subst hAT ho'
   have hw1 : IntKind.i64.wrap ((k : Int) * 64 + 0 + (o' : Int)) = (k : Int) * 64 + o' := by rw [Int.add_zero]; exact IntWalk.i64_in _ (by omega)
   have hw0 : IntKind.i64.wrap ((k : Int) * 64 + (o' : Int)) = (k : Int) * 64 + o' := IntWalk.i64_in _ (by omega)
   have hw2 : IntKind.i64.wrap ((k : Int) * 64 + 0 + 64) = (k : Int) * 64 + 64 := by rw [Int.add_zero]; exact IntWalk.i64_in _ (by omega)
   have hw22 : IntKind.i64.wrap ((k : Int) * 64 + 64) = (k : Int) * 64 + 64 := IntWalk.i64_in _ (by omega)
   have hw3 : IntKind.i64.wrap ((k : Int) * 64 + 64 - 1) = (k : Int) * 64 + 63 := by rw [show (k : Int) * 64 + 64 - 1 = (k : Int) * 64 + 63 by omega]; exact IntWalk.i64_in _ (by omega)
   have HW0 := Lib.hid hw0
   have HW1 := Lib.hid hw1
   have HW2 := Lib.hid hw2
   have HW22 := Lib.hid hw22
   have HW3 := Lib.hid hw3
   clear hV hAt hOc hO hVe hOe htO hmv hst hgo hO4 hs htp hfo hk hF g1 g2 g3 g4 hb1 hw0 hw1 hw2 hw22 hw3
   obtain ⟨p0a, p1a, p2a, p3a, p4a, p5a, p6a, p7a, p8a⟩ := cells9 HY.out
   go_wp2_with fail
   refine (K9.out 0 (by decide) w7 bR).mono ?_
   rintro e w8 ⟨_, rfl, u1, u2, u3, u4, rfl, hM8, hb8⟩
   obtain ⟨D1, f1, rfl, _⟩ := hM8.t.b
   obtain ⟨D2, f2, rfl, _⟩ := hM8.t.f
   obtain ⟨D3, f3, rfl, _⟩ := hM8.l
   obtain ⟨D4, f4, rfl, _⟩ := hM8.o
   obtain ⟨w9, hW9, ho9, hb9, _⟩ := box1 w8 #[.slice D1 V.t.bs.length f1, .slice D2 V.t.fs.length f2, .slice D3 V.c.ls.length f3, .int .i64 V.c.hand, .int .i64 V.g.count, .int .i64 V.g.next, .int .i64 V.g.round, .slice D4 V.g.os.length f4, .int .i64 V.sp] 34
   have hb79 := bT hb8 hb9
   have HB79 := Lib.hid hb79
   try replace HM := Lib.hid (HM.out.now hb79)
   try replace HX := Lib.hid (HX.out.below hb79)
   try replace HK := Lib.hid (HK.out.below hb79)
   try replace HV := Lib.hid (HV.out.now hb79)
   try replace HY := Lib.hid (HY.out.below hb79)
   try replace HU := Lib.hid (HU.out.now hb79)
   try replace HZ := Lib.hid (HZ.out.below hb79)
   try replace HL := Lib.hid (HL.out.now hb79)
   try replace HE := Lib.hid (HE.out.now hb79)
   replace HB := Lib.hid (bT HB.out hb79)
   clear hM8 hb8 hb9 hb79 ho9
   clear p0a p1a p2a p3a p4a p5a p6a p7a p8a
   obtain ⟨p0a, p1a, p2a, p3a, p4a, p5a, p6a, p7a, p8a⟩ := cells9 HY.out
   go_upto_region 9 with fail
   try rw [hW9]
   clear hW9
   go_wp2_with fail
   refine (K9.out 63 (by decide) w9 HB79.out).mono ?_
   rintro e w10 ⟨_, rfl, u1, u2, u3, u4, rfl, hM10, hb10⟩
   obtain ⟨E1, g1, rfl, _⟩ := hM10.t.b
   obtain ⟨E2, g2, rfl, _⟩ := hM10.t.f
   obtain ⟨E3, g3, rfl, _⟩ := hM10.l
   obtain ⟨E4, g4, rfl, _⟩ := hM10.o
   obtain ⟨w11, hW11, ho11, hb11, _⟩ := box1 w10 #[.slice E1 V.t.bs.length g1, .slice E2 V.t.fs.length g2, .slice E3 V.c.ls.length g3, .int .i64 V.c.hand, .int .i64 V.g.count, .int .i64 V.g.next, .int .i64 V.g.round, .slice E4 V.g.os.length g4, .int .i64 V.sp] 34
   have hb911 := bT hb10 hb11
   replace HB := Lib.hid (bT HB.out hb911)
   clear hM10 hb10 hb11 ho11 hb911 K9 HB79
   clear p0a p1a p2a p3a p4a p5a p6a p7a p8a
   go_upto_region 10 with fail
   try rw [hW11]
   clear hW11
   replace HW0 := HW0.out
   replace HW1 := HW1.out
   replace HW2 := HW2.out
   replace HW22 := HW22.out
   replace HW3 := HW3.out
   go_wp2
   go_ret
   exact ⟨rfl, HB.out⟩
end Go.Proofs.YtnaagdmaggdbmaaGreatDoor.lByteNext
