/- A part of the proofs of this seat: Ip, LTb. -/
import Derived.Deep.CutRange
import Derived.Test.YtnaagdmaggdbmaaGreatDoorUCp6
import Derived.Test.YtnaagdmaggdbmaaGreatDoorUPrI
import Derived.Test.YtnaagdmaggdbmaaGreatDoorUWpP
import Derived.Test.YtnaagdmaggdbmaaGreatDoorUGn
import Derived.Test.YtnaagdmaggdbmaaGreatDoorUTbS
set_option linter.unusedVariables false
set_option linter.unusedSimpArgs false
namespace Go.Proofs.YtnaagdmaggdbmaaGreatDoor
open Go.RowKit
set_option maxRecDepth 1000000
set_option linter.unusedVariables false
theorem slm_rs2 {B n c : Nat} {e : TypeId} {w : World} {A : Option Addr} {l : List Int} (h : SlM intE e B w (.slice A n c) l) : Rs intE w.heap.size w A l := by
 obtain ⟨A', c', e', _, _, h4⟩ := h
 injection e' with e1
 subst e1
 exact h4.is
theorem slm_len {B n c : Nat} {e : TypeId} {w : World} {A : Option Addr} {l : List Int} (h : SlM intE e B w (.slice A n c) l) : l.length ≤ 9223372036854775807 := by
 obtain ⟨A', c', e', h1, h2, _⟩ := h
 unfold maxLen at h2
 omega
theorem ipInts_rs (A A' : Option Addr) (c c' : Nat) (l : List Int) (w : World) (h : Rs intE w.heap.size w A l) (h' : Rs intE w.heap.size w A' l) (hl : l.length ≤ 9223372036854775807) :
  Calls Tryz.prog 38 #[.slice A l.length c, .slice A' l.length c'] w fun r w' => r = .returned (.bool true) ∧ Below w.heap.size w w' := by
 go_enter Tryz.func38, Tryz.ntmps38
 go_wp2
 go_loopw [5] (fun i wr => ∃ k : Nat, k ≤ l.length ∧ i = .int .i64 k ∧ Below w.heap.size w wr) (fun i _ => l.length - (intOf i).toNat)
 case atStart => exact ⟨0, by omega, rfl, bR⟩
 case round =>
  obtain ⟨k, hk, rfl, hb⟩ := hrel
  by_cases hlt : k < l.length
  ·obtain ⟨x, ex⟩ : ∃ x, l[k]? = some x := ⟨_, List.getElem?_eq_getElem hlt⟩
   obtain ⟨b, o, rfl, hbb, c1⟩ := Rd.i1 (h.now (Nat.le_refl _) hb) ex
   obtain ⟨b', o', rfl, hbb', c2⟩ := Rd.i1 (h'.now (Nat.le_refl _) hb) ex
   clear ex
   go_wp2
   go_quiet (fail)
   go_wp2
   go_roundw
   case rel => exact ⟨k + 1, by omega, by go_num, bDN hb⟩
   case measure => simp [intOf]; omega
  ·go_wp2
   go_ret
   exact ⟨rfl, hb⟩
end Go.Proofs.YtnaagdmaggdbmaaGreatDoor
namespace Go.Proofs.YtnaagdmaggdbmaaGreatDoor.lTouchBytes
open Go.RowKit
set_option linter.unusedVariables false
set_option linter.unusedSimpArgs false
set_option maxRecDepth 1000000
theorem tb_parts {m V : Ma} {p o b n OC : Int} {L : List Int} (hX : tbX m p o b n = (V, L, OC)) (hO : tbO m p o b n = true) :
  mav V = true ∧ V.t = m.t ∧ V.sp = m.sp ∧ L = tbL m.t m.sp n (pcs p o b) ∧ ((OC = 1 ∨ OC = 2) ↔ L.length = (pcs p o b).length) := by
 obtain ⟨h1, h2, h3, h4⟩ := tbO_yes hO
 rw [h4] at hX
 obtain ⟨i1, i2, i3, i4, i5⟩ := tbS_all h2 (pcs p o b) m [] 1 (pcs_ok h3) h1 (.inl rfl)
 rw [hX] at i1 i2 i3 i4 i5
 simp only [List.nil_append] at i4
 exact ⟨i1, i2, i3, i4, by rw [i4]; exact i5⟩
theorem tb_again {m V : Ma} {p o b n OC : Int} {L : List Int} (hX : tbX m p o b n = (V, L, OC)) (hO : tbO m p o b n = true) :
  ∃ V2 OC2, tbX V p o b n = (V2, L, OC2) ∧ tbO V p o b n = true ∧ ((OC = 1 ∨ OC = 2) → (pcs p o b).length = 1 → OC2 = 1) := by
 obtain ⟨h1, h2, h3, h4⟩ := tbO_yes hO
 obtain ⟨p1, p2, p3, p4, p5⟩ := tb_parts hX hO
 have hO2 : tbO V p o b n = true := by unfold tbO; rw [p1, h2, p3, h3]; rfl
 cases hX2 : tbX V p o b n with
 | mk V2 Y =>
  obtain ⟨L2, OC2⟩ := Y
  obtain ⟨q1, q2, q3, q4, q5⟩ := tb_parts hX2 hO2
  have hL : L2 = L := by rw [q4, p4, p2, p3]
  subst hL
  refine ⟨V2, OC2, rfl, hO2, fun hg h1l => ?_⟩
  obtain ⟨q, hq⟩ := List.length_eq_one_iff.1 h1l
  have hfO : fbO m q.1 q.2.1 n = true := by
   have hk := pcs_ok h3 q (by rw [hq]; simp)
   unfold fbO tchO
   rw [h1, hk.1, hk.2, h2]; rfl
  obtain ⟨s1, s2⟩ := tbS_one hfO
  rw [h4, hq] at hX
  rw [hX] at s1 s2
  have s1' : V = tchV m q.1 n := s1
  have s2' : OC = tchR m q.1 n := s2
  obtain ⟨h5, h6⟩ := fbO_parts hfO
  obtain ⟨r1, r2⟩ := tch_R h5
  have htp : tpO m.t m.sp q.1 n = true := by
   cases ht : tpO m.t m.sp q.1 n with
   | true => rfl
   | false => have := r2 ht; omega
  obtain ⟨g1, g2, g3, g4⟩ := tch_again h5 htp
  have hfO2 : fbO V q.1 q.2.1 n = true := by unfold fbO; rw [s1', g1, h6]; rfl
  have h7 := (tbO_yes hO2).2.2.2
  rw [hX2, hq] at h7
  obtain ⟨t1, t2⟩ := tbS_one hfO2
  rw [← h7] at t2
  have t3 : OC2 = tchR V q.1 n := t2
  rw [t3, s1', g3]
set_option maxHeartbeats 4000000 in
theorem walk (a0 : Option Addr) (len0 cap0 : Nat) (z0 : List Int) (w : World) (w0 : IsRow .u8 w a0 len0 cap0 z0) (hfree : Free w) :
  Calls Tryz.prog 10 #[.slice a0 len0 cap0] w fun e w' => e = .returned (.bool true) ∧ Below w.heap.size w w' := by
 by_cases hbig : 1048576 < len0
 ·go_enter Tryz.func10, Tryz.ntmps10
  go_wp2
  go_ret
  exact ⟨rfl, by repeat first | exact bR | refine bA ?_⟩
 have hcap := row_cap w0
 have hby := Lib.hid (row_bytes w0)
 have HF := Lib.hid hfree
 clear w0 hfree
 go_enter Tryz.func10, Tryz.ntmps10
 go_wp2_with fail
 refine (DrawTouchBytes_any a0 len0 cap0 w hby.out hcap (by omega)).mono ?_
 rintro e w1 ⟨_, rfl, m, v1, v2, v3, v4, p, o, b, n, rfl, hM, hz, hsp, hso, hsb, hsn, hb1⟩
 obtain ⟨A1, c1, rfl, _⟩ := hM.t.b
 obtain ⟨A2, c2, rfl, _⟩ := hM.t.f
 obtain ⟨A3, c3, rfl, _⟩ := hM.l
 obtain ⟨A4, c4, rfl, _⟩ := hM.o
 have hx := Own.new_ w1 34 #[.slice A1 m.t.bs.length c1, .slice A2 m.t.fs.length c2, .slice A3 m.c.ls.length c3, .int .i64 m.c.hand, .int .i64 m.g.count, .int .i64 m.g.next, .int .i64 m.g.round, .slice A4 m.g.os.length c4, .int .i64 m.sp]
 have hb2 : Below w1.heap.size w1 (w1.alloc (.cells #[.slice A1 m.t.bs.length c1, .slice A2 m.t.fs.length c2, .slice A3 m.c.ls.length c3, .int .i64 m.c.hand, .int .i64 m.g.count, .int .i64 m.g.next, .int .i64 m.g.round, .slice A4 m.g.os.length c4, .int .i64 m.sp] 34)) := bA bR
 have hs2 : (w1.alloc (.cells #[.slice A1 m.t.bs.length c1, .slice A2 m.t.fs.length c2, .slice A3 m.c.ls.length c3, .int .i64 m.c.hand, .int .i64 m.g.count, .int .i64 m.g.next, .int .i64 m.g.round, .slice A4 m.g.os.length c4, .int .i64 m.sp] 34)).heap.size = w1.heap.size + 1 := by simp
 generalize hW2 : w1.alloc (.cells #[.slice A1 m.t.bs.length c1, .slice A2 m.t.fs.length c2, .slice A3 m.c.ls.length c3, .int .i64 m.c.hand, .int .i64 m.g.count, .int .i64 m.g.next, .int .i64 m.g.round, .slice A4 m.g.os.length c4, .int .i64 m.sp] 34) = w2 at hx hb2 hs2
 have HM := Lib.hid (hM.now hb2)
 have HX := Lib.hid hx
 have HB := Lib.hid (bT hb1 hb2)
 have hs1 := hb1.size
 clear hM hx hb1 hb2
 generalize hmb : w1.heap.size = mb at *
 obtain ⟨X, hX⟩ : ∃ X, tbX m p o b n = X := ⟨_, rfl⟩
 obtain ⟨O, hO⟩ : ∃ x, tbO m p o b n = x := ⟨_, rfl⟩
 obtain ⟨V, L, OC⟩ := X
 have hV := hX
 have KI : Hid (∀ W, Below w2.heap.size w2 W → Calls Tryz.prog 36 #[.agg #[.slice A1 m.t.bs.length c1, .slice A2 m.t.fs.length c2, .slice A3 m.c.ls.length c3, .int .i64 m.c.hand, .int .i64 m.g.count, .int .i64 m.g.next, .int .i64 m.g.round, .slice A4 m.g.os.length c4, .int .i64 m.sp], .int .i64 p, .int .i64 o, .int .i64 b, .int .i64 n] W (Post2 fun v w' => ∃ v1 v2 v3 v4 Az cz, v = .tuple #[.agg #[v1, v2, v3, .int .i64 V.c.hand, .int .i64 V.g.count, .int .i64 V.g.next, .int .i64 V.g.round, v4, .int .i64 V.sp], .slice Az L.length cz, .int .i64 OC, .bool O] ∧ MaM W.heap.size w' v1 v2 v3 v4 V ∧ SlM intE 3 W.heap.size w' (.slice Az L.length cz) L ∧ Below W.heap.size W w')) := by
  intro W hb
  have hMr := (HM.out.now hb).r
  have hFr := HF.out.now (bT HB.out hb)
  exact (by subst hO; have h := TouchBytes_any _ _ _ _ m p o b n W hMr hFr; rw [hX] at h; exact h.mono fun _ _ ⟨v, e, ⟨v1, v2, v3, v4, A, c, h1, h2, h3⟩, h4⟩ => ⟨v, e, v1, v2, v3, v4, A, c, h1, h2, h3, h4⟩)
 have KS : Hid (∀ W, Below w2.heap.size w2 W → Calls Tryz.prog 37 #[.agg #[.slice A1 m.t.bs.length c1, .slice A2 m.t.fs.length c2, .slice A3 m.c.ls.length c3, .int .i64 m.c.hand, .int .i64 m.g.count, .int .i64 m.g.next, .int .i64 m.g.round, .slice A4 m.g.os.length c4, .int .i64 m.sp], .int .i64 p, .int .i64 o, .int .i64 b, .int .i64 n] W (Post2 fun v w' => ∃ v1 v2 v3 v4 Az cz, v = .tuple #[.agg #[v1, v2, v3, .int .i64 V.c.hand, .int .i64 V.g.count, .int .i64 V.g.next, .int .i64 V.g.round, v4, .int .i64 V.sp], .slice Az L.length cz, .int .i64 OC, .bool O] ∧ MaM W.heap.size w' v1 v2 v3 v4 V ∧ SlM intE 3 W.heap.size w' (.slice Az L.length cz) L ∧ Below W.heap.size W w')) := by
  intro W hb
  have hMr := (HM.out.now hb).r
  exact (by subst hO; have h := sTouchBytes_any _ _ _ _ m p o b n W hMr; rw [hX] at h; exact h.mono fun _ _ ⟨v, e, ⟨v1, v2, v3, v4, A, c, h1, h2, h3⟩, h4⟩ => ⟨v, e, v1, v2, v3, v4, A, c, h1, h2, h3, h4⟩)
 obtain ⟨p0a, p1a, p2a, p3a, p4a, p5a, p6a, p7a, p8a⟩ := cells9 HX.out
 go_wp2_with fail
 try rw [hW2]
 refine (KI.out w2 bR).mono ?_
 rintro e w3 ⟨_, rfl, u1, u2, u3, u4, Z3, z3, rfl, hM3, hS3, hb3⟩
 clear hW2 KI p0a p1a p2a p3a p4a p5a p6a p7a p8a
 obtain ⟨B1, d1, rfl, _⟩ := hM3.t.b
 obtain ⟨B2, d2, rfl, _⟩ := hM3.t.f
 obtain ⟨B3, d3, rfl, _⟩ := hM3.l
 obtain ⟨B4, d4, rfl, _⟩ := hM3.o
 have hy := Own.new_ w3 34 #[.slice B1 V.t.bs.length d1, .slice B2 V.t.fs.length d2, .slice B3 V.c.ls.length d3, .int .i64 V.c.hand, .int .i64 V.g.count, .int .i64 V.g.next, .int .i64 V.g.round, .slice B4 V.g.os.length d4, .int .i64 V.sp]
 have hb4 : Below w3.heap.size w3 (w3.alloc (.cells #[.slice B1 V.t.bs.length d1, .slice B2 V.t.fs.length d2, .slice B3 V.c.ls.length d3, .int .i64 V.c.hand, .int .i64 V.g.count, .int .i64 V.g.next, .int .i64 V.g.round, .slice B4 V.g.os.length d4, .int .i64 V.sp] 34)) := bA bR
 generalize hW4 : w3.alloc (.cells #[.slice B1 V.t.bs.length d1, .slice B2 V.t.fs.length d2, .slice B3 V.c.ls.length d3, .int .i64 V.c.hand, .int .i64 V.g.count, .int .i64 V.g.next, .int .i64 V.g.round, .slice B4 V.g.os.length d4, .int .i64 V.sp] 34) = w4 at hy hb4
 have hbx := bT hb3 hb4
 try replace HM := Lib.hid (HM.out.now hbx)
 try replace HX := Lib.hid (HX.out.below hbx)
 try replace HK := Lib.hid (HK.out.below hbx)
 try replace HV := Lib.hid (HV.out.now hbx)
 try replace HY := Lib.hid (HY.out.below hbx)
 try replace HU := Lib.hid (HU.out.now hbx)
 try replace HZ := Lib.hid (HZ.out.below hbx)
 try replace HL := Lib.hid (HL.out.now hbx)
 try replace HE := Lib.hid (HE.out.now hbx)
 replace HB := Lib.hid (bT HB.out hbx)
 have HV := Lib.hid (hM3.now hb4)
 have HL := Lib.hid (hS3.now hb4)
 clear hS3
 have HY := Lib.hid hy
 have hs3 := hb3.size
 clear hM3 hy hb4
 obtain ⟨p0a, p1a, p2a, p3a, p4a, p5a, p6a, p7a, p8a⟩ := cells9 HX.out
 go_wp2_with fail
 try rw [hW4]
 refine (KS.out w4 hbx).mono ?_
 rintro e w5 ⟨_, rfl, u1, u2, u3, u4, Z5, z5, rfl, hM5, hS5, hb5⟩
 clear hbx
 clear hW4 KS hb3 p0a p1a p2a p3a p4a p5a p6a p7a p8a
 obtain ⟨C1, e1, rfl, _⟩ := hM5.t.b
 obtain ⟨C2, e2, rfl, _⟩ := hM5.t.f
 obtain ⟨C3, e3, rfl, _⟩ := hM5.l
 obtain ⟨C4, e4, rfl, _⟩ := hM5.o
 have hy := Own.new_ w5 34 #[.slice C1 V.t.bs.length e1, .slice C2 V.t.fs.length e2, .slice C3 V.c.ls.length e3, .int .i64 V.c.hand, .int .i64 V.g.count, .int .i64 V.g.next, .int .i64 V.g.round, .slice C4 V.g.os.length e4, .int .i64 V.sp]
 have hb6 : Below w5.heap.size w5 (w5.alloc (.cells #[.slice C1 V.t.bs.length e1, .slice C2 V.t.fs.length e2, .slice C3 V.c.ls.length e3, .int .i64 V.c.hand, .int .i64 V.g.count, .int .i64 V.g.next, .int .i64 V.g.round, .slice C4 V.g.os.length e4, .int .i64 V.sp] 34)) := bA bR
 generalize hW6 : w5.alloc (.cells #[.slice C1 V.t.bs.length e1, .slice C2 V.t.fs.length e2, .slice C3 V.c.ls.length e3, .int .i64 V.c.hand, .int .i64 V.g.count, .int .i64 V.g.next, .int .i64 V.g.round, .slice C4 V.g.os.length e4, .int .i64 V.sp] 34) = w6 at hy hb6
 have hbx := bT hb5 hb6
 try replace HM := Lib.hid (HM.out.now hbx)
 try replace HX := Lib.hid (HX.out.below hbx)
 try replace HK := Lib.hid (HK.out.below hbx)
 try replace HV := Lib.hid (HV.out.now hbx)
 try replace HY := Lib.hid (HY.out.below hbx)
 try replace HU := Lib.hid (HU.out.now hbx)
 try replace HZ := Lib.hid (HZ.out.below hbx)
 try replace HL := Lib.hid (HL.out.now hbx)
 try replace HE := Lib.hid (HE.out.now hbx)
 replace HB := Lib.hid (bT HB.out hbx)
 have HU := Lib.hid (hM5.now hb6)
 have HE := Lib.hid (hS5.now hb6)
 clear hS5
 have HZ := Lib.hid hy
 have hs5 := hb5.size
 clear hM5 hy hb6
 obtain ⟨p0a, p1a, p2a, p3a, p4a, p5a, p6a, p7a, p8a⟩ := cells9 HY.out
 obtain ⟨p0b, p1b, p2b, p3b, p4b, p5b, p6b, p7b, p8b⟩ := cells9 HZ.out
 clear hb5 hbx 
 go_wp2_with fail
 try rw [hW6]
 refine (MachineSame_same _ _ _ _ _ _ _ _ V w6 HV.out.r HU.out.r).mono ?_
 rintro e w7 ⟨rfl, hb7⟩
 clear hW6 p0a p1a p2a p3a p4a p5a p6a p7a p8a
 clear p0b p1b p2b p3b p4b p5b p6b p7b p8b
 try replace HM := Lib.hid (HM.out.now hb7)
 try replace HX := Lib.hid (HX.out.below hb7)
 try replace HK := Lib.hid (HK.out.below hb7)
 try replace HV := Lib.hid (HV.out.now hb7)
 try replace HY := Lib.hid (HY.out.below hb7)
 try replace HU := Lib.hid (HU.out.now hb7)
 try replace HZ := Lib.hid (HZ.out.below hb7)
 try replace HL := Lib.hid (HL.out.now hb7)
 try replace HE := Lib.hid (HE.out.now hb7)
 replace HB := Lib.hid (bT HB.out hb7)
 clear hb7
 go_wp2_with fail
 refine (ipInts_rs _ _ _ _ L w7 (slm_rs2 HL.out) (slm_rs2 HE.out) (slm_len HL.out)).mono ?_
 rintro e w7b ⟨rfl, hb7b⟩
 try replace HM := Lib.hid (HM.out.now hb7b)
 try replace HX := Lib.hid (HX.out.below hb7b)
 try replace HK := Lib.hid (HK.out.below hb7b)
 try replace HV := Lib.hid (HV.out.now hb7b)
 try replace HY := Lib.hid (HY.out.below hb7b)
 try replace HU := Lib.hid (HU.out.now hb7b)
 try replace HZ := Lib.hid (HZ.out.below hb7b)
 try replace HL := Lib.hid (HL.out.now hb7b)
 try replace HE := Lib.hid (HE.out.now hb7b)
 replace HB := Lib.hid (bT HB.out hb7b)
 clear hb7b
 cases O with
 | false =>
  obtain ⟨p0a, p1a, p2a, p3a, p4a, p5a, p6a, p7a, p8a⟩ := cells9 HY.out
  obtain ⟨p0b, p1b, p2b, p3b, p4b, p5b, p6b, p7b, p8b⟩ := cells9 HZ.out
  go_wp2_with fail
  refine (MachineSame_same _ _ _ _ _ _ _ _ V _ HV.out.r HU.out.r).mono ?_
  rintro e w8 ⟨rfl, hb8⟩
  try replace HM := Lib.hid (HM.out.now hb8)
  try replace HX := Lib.hid (HX.out.below hb8)
  try replace HK := Lib.hid (HK.out.below hb8)
  try replace HV := Lib.hid (HV.out.now hb8)
  try replace HY := Lib.hid (HY.out.below hb8)
  try replace HU := Lib.hid (HU.out.now hb8)
  try replace HZ := Lib.hid (HZ.out.below hb8)
  try replace HL := Lib.hid (HL.out.now hb8)
  try replace HE := Lib.hid (HE.out.now hb8)
  replace HB := Lib.hid (bT HB.out hb8)
  go_wp2_with fail
  refine (ipInts_rs _ _ _ _ L w8 (slm_rs2 HL.out) (slm_rs2 HE.out) (slm_len HL.out)).mono ?_
  rintro e w9 ⟨rfl, hb9⟩
  replace HB := Lib.hid (bT HB.out hb9)
  go_wp2
  go_ret
  exact ⟨rfl, HB.out⟩
 | true =>
  obtain ⟨hmv, hvt, hvs, hvl, hwh⟩ := tb_parts hX hO
  clear hvt hvs hvl
  obtain ⟨V2, OC2, hX2, hO2, h12⟩ := tb_again hX hO
  obtain ⟨_, hn8, hpv, _⟩ := tbO_yes hO
  have hm0 := (tbO_yes hO).1
  have HMV := Lib.hid hmv
  have hpv0 : pval 0 p o b = true := by rw [← pval_sp (mav_sp hm0)]; exact hpv
  have hpc : pcv 0 p o b = pcs p o b := by unfold pcv; rw [if_pos hpv0]
  have hNN := pcn_le hpv0
  have KT : Hid (∀ W, Below w7b.heap.size w7b W → Calls Tryz.prog 36 #[.agg #[.slice B1 V.t.bs.length d1, .slice B2 V.t.fs.length d2, .slice B3 V.c.ls.length d3, .int .i64 V.c.hand, .int .i64 V.g.count, .int .i64 V.g.next, .int .i64 V.g.round, .slice B4 V.g.os.length d4, .int .i64 V.sp], .int .i64 p, .int .i64 o, .int .i64 b, .int .i64 n] W (Post2 fun v w' => ∃ v1 v2 v3 v4 Az cz, v = .tuple #[.agg #[v1, v2, v3, .int .i64 V2.c.hand, .int .i64 V2.g.count, .int .i64 V2.g.next, .int .i64 V2.g.round, v4, .int .i64 V2.sp], .slice Az L.length cz, .int .i64 OC2, .bool true] ∧ MaM W.heap.size w' v1 v2 v3 v4 V2 ∧ SlM intE 3 W.heap.size w' (.slice Az L.length cz) L ∧ Below W.heap.size W w')) := by
   intro W hb
   have h := TouchBytes_any _ _ _ _ V p o b n W (HV.out.now hb).r (HF.out.now (bT HB.out hb))
   rw [hX2, hO2] at h
   exact h.mono fun _ _ ⟨v, e, ⟨v1, v2, v3, v4, A, c, h1, h2, h3⟩, h4⟩ => ⟨v, e, v1, v2, v3, v4, A, c, h1, h2, h3, h4⟩
  have KP := Lib.hid (fun W => SplitBytes_mine 0 p o b W)
  rw [hpc, hpv0, pcs_length] at KP
  rw [pcs_length] at hwh h12
  have hN1 := hNN.1
  have hN2 := hNN.2.1
  clear hX hO hX2 hO2 hn8 hpv hm0 hpv0 hpc hNN hmv hV
  generalize pcn p o b = N at *
  go_wp2_with fail
  refine (KP.out w7b).mono ?_
  rintro e w8 ⟨A8, c8, rfl, hlc8, _, hb8⟩
  have hb78 := Lib.hid hb8
  try replace HM := Lib.hid (HM.out.now hb8)
  try replace HX := Lib.hid (HX.out.below hb8)
  try replace HK := Lib.hid (HK.out.below hb8)
  try replace HV := Lib.hid (HV.out.now hb8)
  try replace HY := Lib.hid (HY.out.below hb8)
  try replace HU := Lib.hid (HU.out.now hb8)
  try replace HZ := Lib.hid (HZ.out.below hb8)
  try replace HL := Lib.hid (HL.out.now hb8)
  try replace HE := Lib.hid (HE.out.now hb8)
  replace HB := Lib.hid (bT HB.out hb8)
  clear KP hb8
  have H12 := Lib.hid h12
  have HLE : Hid (((L.length : Int) == (N : Int)) = decide (OC = 1 ∨ OC = 2)) := by
   show _ = _
   by_cases hw : OC = 1 ∨ OC = 2
   ·rw [decide_eq_true hw, beq_iff_eq]
    have := hwh.1 hw
    omega
   ·rw [decide_eq_false hw, beq_eq_false_iff_ne]
    intro h
    exact hw (hwh.2 (by omega))
  clear hwh h12
  go_upto_region 9 with fail
  go_cut [18] from 23 (fun u wx => u = .bool (decide (OC = 1 ∨ OC = 2)) ∧ wx = w8)
  case first =>
   by_cases h1r : OC = 1
   ·subst h1r
    go_wp2
    go_meet
    exact ⟨by simp, rfl⟩
   ·have e1 : (OC == 1) = false := beq_eq_false_iff_ne.2 h1r
    by_cases h2r : OC = 2
    ·subst h2r
     go_wp2
     go_meet
     exact ⟨by simp, rfl⟩
    ·have e2 : (OC == 2) = false := beq_eq_false_iff_ne.2 h2r
     have HD : Hid (decide (OC = 1 ∨ OC = 2) = false) := decide_eq_false (by omega)
     go_wp2
     go_meet
     exact ⟨by rw [HD.out], rfl⟩
  case rest =>
   obtain ⟨rfl, rfl⟩ := hcut
   have HW2 : Hid (decide (OC = 1 ∨ OC = 2) = true → N = 1 → OC2 = 1) := fun h => H12.out (of_decide_eq_true h)
   clear H12
   generalize decide (OC = 1 ∨ OC = 2) = wh at *
   obtain ⟨p0a, p1a, p2a, p3a, p4a, p5a, p6a, p7a, p8a⟩ := cells9 HY.out
   go_wp2_with fail
   refine (KT.out wc hb78.out).mono ?_
   rintro e w9 ⟨_, rfl, u1, u2, u3, u4, Z9, z9, rfl, hM9, hS9, hb9⟩
   obtain ⟨F1, f1, rfl, _⟩ := hM9.t.b
   obtain ⟨F2, f2, rfl, _⟩ := hM9.t.f
   obtain ⟨F3, f3, rfl, _⟩ := hM9.l
   obtain ⟨F4, f4, rfl, _⟩ := hM9.o
   obtain ⟨w10, hW10, _, hb10, _⟩ := box1 w9 #[.slice F1 V2.t.bs.length f1, .slice F2 V2.t.fs.length f2, .slice F3 V2.c.ls.length f3, .int .i64 V2.c.hand, .int .i64 V2.g.count, .int .i64 V2.g.next, .int .i64 V2.g.round, .slice F4 V2.g.os.length f4, .int .i64 V2.sp] 34
   have hb910 := bT hb9 hb10
   try replace HM := Lib.hid (HM.out.now hb910)
   try replace HX := Lib.hid (HX.out.below hb910)
   try replace HK := Lib.hid (HK.out.below hb910)
   try replace HV := Lib.hid (HV.out.now hb910)
   try replace HY := Lib.hid (HY.out.below hb910)
   try replace HU := Lib.hid (HU.out.now hb910)
   try replace HZ := Lib.hid (HZ.out.below hb910)
   try replace HL := Lib.hid (HL.out.now hb910)
   try replace HE := Lib.hid (HE.out.now hb910)
   replace HB := Lib.hid (bT HB.out hb910)
   have HQ := Lib.hid (hS9.now hb10)
   clear hM9 hS9 hb9 hb10 hb910 KT
   clear p0a p1a p2a p3a p4a p5a p6a p7a p8a
   go_upto_region 11 with fail
   try rw [hW10]
   clear hW10
   obtain ⟨p0a, p1a, p2a, p3a, p4a, p5a, p6a, p7a, p8a⟩ := cells9 HY.out
   go_wp2_with fail
   refine (MachineValid_any _ _ _ _ V _ HV.out.r (HF.out.now HB.out)).mono ?_
   rintro e w11 ⟨rfl, hb11⟩
   rw [HMV.out]
   try replace HM := Lib.hid (HM.out.now hb11)
   try replace HX := Lib.hid (HX.out.below hb11)
   try replace HK := Lib.hid (HK.out.below hb11)
   try replace HV := Lib.hid (HV.out.now hb11)
   try replace HY := Lib.hid (HY.out.below hb11)
   try replace HU := Lib.hid (HU.out.now hb11)
   try replace HZ := Lib.hid (HZ.out.below hb11)
   try replace HL := Lib.hid (HL.out.now hb11)
   try replace HE := Lib.hid (HE.out.now hb11)
   replace HB := Lib.hid (bT HB.out hb11)
   replace HQ := Lib.hid (HQ.out.now hb11)
   clear hb11
   clear p0a p1a p2a p3a p4a p5a p6a p7a p8a
   have hle := HLE.out
   go_wp2_with fail
   refine (ipInts_rs _ _ _ _ L w11 (slm_rs2 HQ.out) (slm_rs2 HL.out) (slm_len HL.out)).mono ?_
   rintro e w12 ⟨rfl, hb12⟩
   replace HB := Lib.hid (bT HB.out hb12)
   clear hb12 hle
   by_cases hN : 1 < N
   ·have hNi : decide (1 < (N : Int)) = true := by simp; omega
    go_wp2
    go_ret
    exact ⟨rfl, HB.out⟩
   ·have hNi : decide (1 < (N : Int)) = false := by simp; omega
    cases wh with
    | false =>
     go_wp2
     go_ret
     exact ⟨rfl, HB.out⟩
    | true =>
     obtain rfl := HW2.out rfl (by omega)
     go_wp2
     go_ret
     exact ⟨rfl, HB.out⟩
end Go.Proofs.YtnaagdmaggdbmaaGreatDoor.lTouchBytes
