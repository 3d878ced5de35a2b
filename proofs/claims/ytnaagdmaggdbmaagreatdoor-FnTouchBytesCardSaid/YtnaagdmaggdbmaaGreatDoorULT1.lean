/- A part of the proofs of this seat: LT1. -/
import Derived.Test.YtnaagdmaggdbmaaGreatDoorUTpI
import Derived.Test.YtnaagdmaggdbmaaGreatDoorUIp
set_option linter.unusedVariables false
set_option linter.unusedSimpArgs false
namespace Go.Proofs.YtnaagdmaggdbmaaGreatDoor.lTouchOne
open Go.RowKit
set_option linter.unusedVariables false
set_option linter.unusedSimpArgs false
set_option maxRecDepth 1000000
open lTouchBytes
theorem pval_one {s p o b : Int} (h : pval s p o b = true) : pval s p o 1 = true := by
 obtain ⟨h1, h2, h3⟩ := pval_iff.1 h
 exact pval_iff.2 ⟨h1, by omega, by omega⟩
theorem pcs_one {s p o b : Int} (h : pval s p o b = true) : ∃ c rest, pcs p o b = (p, o, c) :: rest := by
 have hn := pcn_le h
 obtain ⟨n, hn2⟩ : ∃ n, pcn p o b = n + 1 := ⟨pcn p o b - 1, by omega⟩
 have hl := pcs_length p o b
 have h0 := pcs_get p o b 0 (by omega)
 cases e : pcs p o b with
 | nil => rw [e, hn2] at hl; simp at hl
 | cons x r =>
  rw [e] at h0
  simp at h0
  refine ⟨x.2.2, r, ?_⟩
  rw [h0]
  unfold pc pcur
  simp
  omega
theorem tb_first {m V : Ma} {p o b n OC : Int} {L : List Int} (hX : tbX m p o b n = (V, L, OC)) (hO : tbO m p o b n = true) :
  ∃ L1, tbX m p o 1 n = (tchV m p n, L1, tchR m p n) ∧ tbO m p o 1 n = true ∧ tchO m p n = true ∧ (L1 = [] ∨ ∃ x, L1 = [x]) ∧ (L = [] ∨ ∃ x r, L = x :: r ∧ L1 = [x]) := by
 obtain ⟨h1, h2, h3, h4⟩ := tbO_yes hO
 have h3' := pval_one h3
 have hO1 : tbO m p o 1 n = true := by unfold tbO; rw [h1, h2, h3']; rfl
 obtain ⟨c, rest, he⟩ := pcs_one h3
 obtain ⟨c1, rest1, he1⟩ := pcs_one h3'
 have hr1 : rest1 = [] := by
  have hl := pcs_length p o 1
  have hn : pcn p o 1 = 1 := by
   obtain ⟨g1, g2, g3⟩ := pval_iff.1 h3'
   obtain ⟨_, ⟨g6, g7⟩, g8, g9⟩ := aval_iff.1 g1
   unfold pcn
   omega
  rw [he1, hn] at hl
  simpa using hl
 subst hr1
 obtain ⟨p1, p2, p3, p4, p5⟩ := tb_parts hX hO
 have h7 := (tbO_yes hO1).2.2.2
 rw [he1] at h7
 have hk := pcs_ok h3' (p, o, c1) (by rw [he1]; simp)
 have hfO : fbO m p o n = true := by unfold fbO tchO; rw [h1, hk.1, hk.2, h2]; rfl
 obtain ⟨s1, s2⟩ := tbS_one (q := (p, o, c1)) hfO
 cases hX1 : tbX m p o 1 n with
 | mk V1 Y =>
  obtain ⟨L1, OC1⟩ := Y
  obtain ⟨q1, q2, q3, q4, q5⟩ := tb_parts hX1 hO1
  rw [← h7, hX1] at s1 s2
  have e1 : V1 = tchV m p n := s1
  have e2 : OC1 = tchR m p n := s2
  subst e1 e2
  rw [he1] at q4
  rw [he] at p4
  refine ⟨L1, rfl, hO1, (fbO_parts hfO).1, ?_, ?_⟩
  ·rw [q4]
   unfold tbL
   split
   ·exact .inr ⟨_, rfl⟩
   ·exact .inl rfl
  ·rw [p4, q4]
   unfold tbL
   split
   ·exact .inr ⟨_, _, rfl, rfl⟩
   ·exact .inl rfl
set_option maxHeartbeats 4000000 in
theorem walk (a0 : Option Addr) (len0 cap0 : Nat) (z0 : List Int) (w : World) (w0 : IsRow .u8 w a0 len0 cap0 z0) (hfree : Free w) :
  Calls Tryz.prog 11 #[.slice a0 len0 cap0] w fun e w' => e = .returned (.bool true) ∧ Below w.heap.size w w' := by
 by_cases hbig : 1048576 < len0
 ·go_enter Tryz.func11, Tryz.ntmps11
  go_wp2
  go_ret
  exact ⟨rfl, by repeat first | exact bR | refine bA ?_⟩
 have hcap := row_cap w0
 have hby := Lib.hid (row_bytes w0)
 have HF := Lib.hid hfree
 clear w0 hfree
 go_enter Tryz.func11, Tryz.ntmps11
 go_wp2_with fail
 refine (DrawTouchBytes_any a0 len0 cap0 w hby.out hcap (by omega)).mono ?_
 rintro e w1 ⟨_, rfl, m, v1, v2, v3, v4, p, o, b, n, rfl, hM, hz, hsp, hso, hsb, hsn, hb1⟩
 obtain ⟨A1, c1, rfl, _⟩ := hM.t.b
 obtain ⟨A2, c2, rfl, _⟩ := hM.t.f
 obtain ⟨A3, c3, rfl, _⟩ := hM.l
 obtain ⟨A4, c4, rfl, _⟩ := hM.o
 have hx := Own.new_ w1 34 #[.slice A1 m.t.bs.length c1, .slice A2 m.t.fs.length c2, .slice A3 m.c.ls.length c3, .int .i64 m.c.hand, .int .i64 m.g.count, .int .i64 m.g.next, .int .i64 m.g.round, .slice A4 m.g.os.length c4, .int .i64 m.sp]
 have hb2 : Below w1.heap.size w1 (w1.alloc (.cells #[.slice A1 m.t.bs.length c1, .slice A2 m.t.fs.length c2, .slice A3 m.c.ls.length c3, .int .i64 m.c.hand, .int .i64 m.g.count, .int .i64 m.g.next, .int .i64 m.g.round, .slice A4 m.g.os.length c4, .int .i64 m.sp] 34)) := bA bR
 have hs2 : (w1.alloc (.cells #[.slice A1 m.t.bs.length c1, .slice A2 m.t.fs.length c2, .slice A3 m.c.ls.length c3, .int .i64 m.c.hand, .int .i64 m.g.count, .int .i64 m.g.next, .int .i64 m.g.round, .slice A4 m.g.os.length c4, .int .i64 m.sp] 34)).heap.size = w1.heap.size + 1 := by simp
 generalize hW2 : w1.alloc (.cells #[.slice A1 m.t.bs.length c1, .slice A2 m.t.fs.length c2, .slice A3 m.c.ls.length c3, .int .i64 m.c.hand, .int .i64 m.g.count, .int .i64 m.g.next, .int .i64 m.g.round, .slice A4 m.g.os.length c4, .int .i64 m.sp] 34) = w2 at hx hb2 hs2
 have HM := Lib.hid (hM.now hb2)
 have HX := Lib.hid hx
 have HB := Lib.hid (bT hb1 hb2)
 have hs1 := hb1.size
 clear hM hx hb1 hb2
 generalize hmb : w1.heap.size = mb at *
 obtain ⟨X, hX⟩ : ∃ X, tbX m p o b n = X := ⟨_, rfl⟩
 obtain ⟨O, hO⟩ : ∃ x, tbO m p o b n = x := ⟨_, rfl⟩
 obtain ⟨V, L, OC⟩ := X
 have hV := hX
 have KI : Hid (∀ W, Below w2.heap.size w2 W → Calls Tryz.prog 36 #[.agg #[.slice A1 m.t.bs.length c1, .slice A2 m.t.fs.length c2, .slice A3 m.c.ls.length c3, .int .i64 m.c.hand, .int .i64 m.g.count, .int .i64 m.g.next, .int .i64 m.g.round, .slice A4 m.g.os.length c4, .int .i64 m.sp], .int .i64 p, .int .i64 o, .int .i64 b, .int .i64 n] W (Post2 fun v w' => ∃ v1 v2 v3 v4 Az cz, v = .tuple #[.agg #[v1, v2, v3, .int .i64 V.c.hand, .int .i64 V.g.count, .int .i64 V.g.next, .int .i64 V.g.round, v4, .int .i64 V.sp], .slice Az L.length cz, .int .i64 OC, .bool O] ∧ MaM W.heap.size w' v1 v2 v3 v4 V ∧ SlM intE 3 W.heap.size w' (.slice Az L.length cz) L ∧ Below W.heap.size W w')) := by
  intro W hb
  have hMr := (HM.out.now hb).r
  have hFr := HF.out.now (bT HB.out hb)
  exact (by subst hO; have h := TouchBytes_any _ _ _ _ m p o b n W hMr hFr; rw [hX] at h; exact h.mono fun _ _ ⟨v, e, ⟨v1, v2, v3, v4, A, c, h1, h2, h3⟩, h4⟩ => ⟨v, e, v1, v2, v3, v4, A, c, h1, h2, h3, h4⟩)
 have KS : Hid (∀ W, Below w2.heap.size w2 W → Calls Tryz.prog 37 #[.agg #[.slice A1 m.t.bs.length c1, .slice A2 m.t.fs.length c2, .slice A3 m.c.ls.length c3, .int .i64 m.c.hand, .int .i64 m.g.count, .int .i64 m.g.next, .int .i64 m.g.round, .slice A4 m.g.os.length c4, .int .i64 m.sp], .int .i64 p, .int .i64 o, .int .i64 b, .int .i64 n] W (Post2 fun v w' => ∃ v1 v2 v3 v4 Az cz, v = .tuple #[.agg #[v1, v2, v3, .int .i64 V.c.hand, .int .i64 V.g.count, .int .i64 V.g.next, .int .i64 V.g.round, v4, .int .i64 V.sp], .slice Az L.length cz, .int .i64 OC, .bool O] ∧ MaM W.heap.size w' v1 v2 v3 v4 V ∧ SlM intE 3 W.heap.size w' (.slice Az L.length cz) L ∧ Below W.heap.size W w')) := by
  intro W hb
  have hMr := (HM.out.now hb).r
  exact (by subst hO; have h := sTouchBytes_any _ _ _ _ m p o b n W hMr; rw [hX] at h; exact h.mono fun _ _ ⟨v, e, ⟨v1, v2, v3, v4, A, c, h1, h2, h3⟩, h4⟩ => ⟨v, e, v1, v2, v3, v4, A, c, h1, h2, h3, h4⟩)
 obtain ⟨p0a, p1a, p2a, p3a, p4a, p5a, p6a, p7a, p8a⟩ := cells9 HX.out
 go_wp2_with fail
 try rw [hW2]
 refine (KI.out w2 bR).mono ?_
 rintro e w3 ⟨_, rfl, u1, u2, u3, u4, Z3, z3, rfl, hM3, hS3, hb3⟩
 clear hW2 KI p0a p1a p2a p3a p4a p5a p6a p7a p8a
 obtain ⟨B1, d1, rfl, _⟩ := hM3.t.b
 obtain ⟨B2, d2, rfl, _⟩ := hM3.t.f
 obtain ⟨B3, d3, rfl, _⟩ := hM3.l
 obtain ⟨B4, d4, rfl, _⟩ := hM3.o
 have hy := Own.new_ w3 34 #[.slice B1 V.t.bs.length d1, .slice B2 V.t.fs.length d2, .slice B3 V.c.ls.length d3, .int .i64 V.c.hand, .int .i64 V.g.count, .int .i64 V.g.next, .int .i64 V.g.round, .slice B4 V.g.os.length d4, .int .i64 V.sp]
 have hb4 : Below w3.heap.size w3 (w3.alloc (.cells #[.slice B1 V.t.bs.length d1, .slice B2 V.t.fs.length d2, .slice B3 V.c.ls.length d3, .int .i64 V.c.hand, .int .i64 V.g.count, .int .i64 V.g.next, .int .i64 V.g.round, .slice B4 V.g.os.length d4, .int .i64 V.sp] 34)) := bA bR
 generalize hW4 : w3.alloc (.cells #[.slice B1 V.t.bs.length d1, .slice B2 V.t.fs.length d2, .slice B3 V.c.ls.length d3, .int .i64 V.c.hand, .int .i64 V.g.count, .int .i64 V.g.next, .int .i64 V.g.round, .slice B4 V.g.os.length d4, .int .i64 V.sp] 34) = w4 at hy hb4
 have hbx := bT hb3 hb4
 try replace HM := Lib.hid (HM.out.now hbx)
 try replace HX := Lib.hid (HX.out.below hbx)
 try replace HK := Lib.hid (HK.out.below hbx)
 try replace HV := Lib.hid (HV.out.now hbx)
 try replace HY := Lib.hid (HY.out.below hbx)
 try replace HU := Lib.hid (HU.out.now hbx)
 try replace HZ := Lib.hid (HZ.out.below hbx)
 try replace HL := Lib.hid (HL.out.now hbx)
 try replace HE := Lib.hid (HE.out.now hbx)
 replace HB := Lib.hid (bT HB.out hbx)
 have HV := Lib.hid (hM3.now hb4)
 have HL := Lib.hid (hS3.now hb4)
 clear hS3
 have HY := Lib.hid hy
 have hs3 := hb3.size
 clear hM3 hy hb4
 obtain ⟨p0a, p1a, p2a, p3a, p4a, p5a, p6a, p7a, p8a⟩ := cells9 HX.out
 go_wp2_with fail
 try rw [hW4]
 refine (KS.out w4 hbx).mono ?_
 rintro e w5 ⟨_, rfl, u1, u2, u3, u4, Z5, z5, rfl, hM5, hS5, hb5⟩
 clear hbx
 clear hW4 KS hb3 p0a p1a p2a p3a p4a p5a p6a p7a p8a
 obtain ⟨C1, e1, rfl, _⟩ := hM5.t.b
 obtain ⟨C2, e2, rfl, _⟩ := hM5.t.f
 obtain ⟨C3, e3, rfl, _⟩ := hM5.l
 obtain ⟨C4, e4, rfl, _⟩ := hM5.o
 have hy := Own.new_ w5 34 #[.slice C1 V.t.bs.length e1, .slice C2 V.t.fs.length e2, .slice C3 V.c.ls.length e3, .int .i64 V.c.hand, .int .i64 V.g.count, .int .i64 V.g.next, .int .i64 V.g.round, .slice C4 V.g.os.length e4, .int .i64 V.sp]
 have hb6 : Below w5.heap.size w5 (w5.alloc (.cells #[.slice C1 V.t.bs.length e1, .slice C2 V.t.fs.length e2, .slice C3 V.c.ls.length e3, .int .i64 V.c.hand, .int .i64 V.g.count, .int .i64 V.g.next, .int .i64 V.g.round, .slice C4 V.g.os.length e4, .int .i64 V.sp] 34)) := bA bR
 generalize hW6 : w5.alloc (.cells #[.slice C1 V.t.bs.length e1, .slice C2 V.t.fs.length e2, .slice C3 V.c.ls.length e3, .int .i64 V.c.hand, .int .i64 V.g.count, .int .i64 V.g.next, .int .i64 V.g.round, .slice C4 V.g.os.length e4, .int .i64 V.sp] 34) = w6 at hy hb6
 have hbx := bT hb5 hb6
 try replace HM := Lib.hid (HM.out.now hbx)
 try replace HX := Lib.hid (HX.out.below hbx)
 try replace HK := Lib.hid (HK.out.below hbx)
 try replace HV := Lib.hid (HV.out.now hbx)
 try replace HY := Lib.hid (HY.out.below hbx)
 try replace HU := Lib.hid (HU.out.now hbx)
 try replace HZ := Lib.hid (HZ.out.below hbx)
 try replace HL := Lib.hid (HL.out.now hbx)
 try replace HE := Lib.hid (HE.out.now hbx)
 replace HB := Lib.hid (bT HB.out hbx)
 have HU := Lib.hid (hM5.now hb6)
 have HE := Lib.hid (hS5.now hb6)
 clear hS5
 have HZ := Lib.hid hy
 have hs5 := hb5.size
 clear hM5 hy hb6
 obtain ⟨p0a, p1a, p2a, p3a, p4a, p5a, p6a, p7a, p8a⟩ := cells9 HY.out
 obtain ⟨p0b, p1b, p2b, p3b, p4b, p5b, p6b, p7b, p8b⟩ := cells9 HZ.out
 clear hb5 hbx 
 go_wp2_with fail
 try rw [hW6]
 refine (MachineSame_same _ _ _ _ _ _ _ _ V w6 HV.out.r HU.out.r).mono ?_
 rintro e w7 ⟨rfl, hb7⟩
 clear hW6 p0a p1a p2a p3a p4a p5a p6a p7a p8a
 clear p0b p1b p2b p3b p4b p5b p6b p7b p8b
 try replace HM := Lib.hid (HM.out.now hb7)
 try replace HX := Lib.hid (HX.out.below hb7)
 try replace HK := Lib.hid (HK.out.below hb7)
 try replace HV := Lib.hid (HV.out.now hb7)
 try replace HY := Lib.hid (HY.out.below hb7)
 try replace HU := Lib.hid (HU.out.now hb7)
 try replace HZ := Lib.hid (HZ.out.below hb7)
 try replace HL := Lib.hid (HL.out.now hb7)
 try replace HE := Lib.hid (HE.out.now hb7)
 replace HB := Lib.hid (bT HB.out hb7)
 clear hb7
 go_wp2_with fail
 refine (ipInts_rs _ _ _ _ L w7 (slm_rs2 HL.out) (slm_rs2 HE.out) (slm_len HL.out)).mono ?_
 rintro e w7b ⟨rfl, hb7b⟩
 try replace HM := Lib.hid (HM.out.now hb7b)
 try replace HX := Lib.hid (HX.out.below hb7b)
 try replace HK := Lib.hid (HK.out.below hb7b)
 try replace HV := Lib.hid (HV.out.now hb7b)
 try replace HY := Lib.hid (HY.out.below hb7b)
 try replace HU := Lib.hid (HU.out.now hb7b)
 try replace HZ := Lib.hid (HZ.out.below hb7b)
 try replace HL := Lib.hid (HL.out.now hb7b)
 try replace HE := Lib.hid (HE.out.now hb7b)
 replace HB := Lib.hid (bT HB.out hb7b)
 clear hb7b
 cases O with
 | false =>
  obtain ⟨p0a, p1a, p2a, p3a, p4a, p5a, p6a, p7a, p8a⟩ := cells9 HY.out
  obtain ⟨p0b, p1b, p2b, p3b, p4b, p5b, p6b, p7b, p8b⟩ := cells9 HZ.out
  go_wp2_with fail
  refine (MachineSame_same _ _ _ _ _ _ _ _ V _ HV.out.r HU.out.r).mono ?_
  rintro e w8 ⟨rfl, hb8⟩
  try replace HM := Lib.hid (HM.out.now hb8)
  try replace HX := Lib.hid (HX.out.below hb8)
  try replace HK := Lib.hid (HK.out.below hb8)
  try replace HV := Lib.hid (HV.out.now hb8)
  try replace HY := Lib.hid (HY.out.below hb8)
  try replace HU := Lib.hid (HU.out.now hb8)
  try replace HZ := Lib.hid (HZ.out.below hb8)
  try replace HL := Lib.hid (HL.out.now hb8)
  try replace HE := Lib.hid (HE.out.now hb8)
  replace HB := Lib.hid (bT HB.out hb8)
  go_wp2_with fail
  refine (ipInts_rs _ _ _ _ L w8 (slm_rs2 HL.out) (slm_rs2 HE.out) (slm_len HL.out)).mono ?_
  rintro e w9 ⟨rfl, hb9⟩
  replace HB := Lib.hid (bT HB.out hb9)
  go_wp2
  go_ret
  exact ⟨rfl, HB.out⟩
 | true =>
  obtain ⟨L1, hX1, hO1, htO, hL1, hLL⟩ := tb_first hX hO
  have KT : Hid (∀ W, Below w7b.heap.size w7b W → Calls Tryz.prog 36 #[.agg #[.slice A1 m.t.bs.length c1, .slice A2 m.t.fs.length c2, .slice A3 m.c.ls.length c3, .int .i64 m.c.hand, .int .i64 m.g.count, .int .i64 m.g.next, .int .i64 m.g.round, .slice A4 m.g.os.length c4, .int .i64 m.sp], .int .i64 p, .int .i64 o, .int .i64 1, .int .i64 n] W (Post2 fun v w' => ∃ v1 v2 v3 v4 Az cz, v = .tuple #[.agg #[v1, v2, v3, .int .i64 (tchV m p n).c.hand, .int .i64 (tchV m p n).g.count, .int .i64 (tchV m p n).g.next, .int .i64 (tchV m p n).g.round, v4, .int .i64 (tchV m p n).sp], .slice Az L1.length cz, .int .i64 (tchR m p n), .bool true] ∧ MaM W.heap.size w' v1 v2 v3 v4 (tchV m p n) ∧ SlM intE 3 W.heap.size w' (.slice Az L1.length cz) L1 ∧ Below W.heap.size W w')) := by
   intro W hb
   have h := TouchBytes_any _ _ _ _ m p o 1 n W (HM.out.now hb).r (HF.out.now (bT HB.out hb))
   rw [hX1, hO1] at h
   exact h.mono fun _ _ ⟨v, e, ⟨v1, v2, v3, v4, A, c, h1, h2, h3⟩, h4⟩ => ⟨v, e, v1, v2, v3, v4, A, c, h1, h2, h3, h4⟩
  have KU : Hid (∀ W, Below w7b.heap.size w7b W → Calls Tryz.prog 40 #[.agg #[.slice A1 m.t.bs.length c1, .slice A2 m.t.fs.length c2, .slice A3 m.c.ls.length c3, .int .i64 m.c.hand, .int .i64 m.g.count, .int .i64 m.g.next, .int .i64 m.g.round, .slice A4 m.g.os.length c4, .int .i64 m.sp], .int .i64 p, .int .i64 n] W (Post2 fun v w' => ∃ v1 v2 v3 v4, v = .tuple #[.agg #[v1, v2, v3, .int .i64 (tchV m p n).c.hand, .int .i64 (tchV m p n).g.count, .int .i64 (tchV m p n).g.next, .int .i64 (tchV m p n).g.round, v4, .int .i64 (tchV m p n).sp], .int .i64 (tchF m p n), .int .i64 (tchR m p n), .bool true] ∧ MaM W.heap.size w' v1 v2 v3 v4 (tchV m p n) ∧ Below W.heap.size W w')) := by
   intro W hb
   have h := TouchPage_any _ _ _ _ m p n W (HM.out.now hb).r (HF.out.now (bT HB.out hb))
   rw [htO] at h
   exact h
  clear hX hO hX1 hO1 htO hV
  generalize tchV m p n = Y at *
  generalize tchR m p n = rr at *
  generalize tchF m p n = ff at *
  obtain ⟨p0a, p1a, p2a, p3a, p4a, p5a, p6a, p7a, p8a⟩ := cells9 HX.out
  go_wp2_with fail
  refine (KT.out w7b bR).mono ?_
  rintro e w8 ⟨_, rfl, u1, u2, u3, u4, Z8, z8, rfl, hM8, hS8, hb8⟩
  obtain ⟨F1, f1, rfl, _⟩ := hM8.t.b
  obtain ⟨F2, f2, rfl, _⟩ := hM8.t.f
  obtain ⟨F3, f3, rfl, _⟩ := hM8.l
  obtain ⟨F4, f4, rfl, _⟩ := hM8.o
  obtain ⟨w9, hW9, ho9, hb9, _⟩ := box1 w8 #[.slice F1 Y.t.bs.length f1, .slice F2 Y.t.fs.length f2, .slice F3 Y.c.ls.length f3, .int .i64 Y.c.hand, .int .i64 Y.g.count, .int .i64 Y.g.next, .int .i64 Y.g.round, .slice F4 Y.g.os.length f4, .int .i64 Y.sp] 34
  have hb79 := Lib.hid (bT hb8 hb9)
  have hbx := hb79.out
  try replace HM := Lib.hid (HM.out.now hbx)
  try replace HX := Lib.hid (HX.out.below hbx)
  try replace HK := Lib.hid (HK.out.below hbx)
  try replace HV := Lib.hid (HV.out.now hbx)
  try replace HY := Lib.hid (HY.out.below hbx)
  try replace HU := Lib.hid (HU.out.now hbx)
  try replace HZ := Lib.hid (HZ.out.below hbx)
  try replace HL := Lib.hid (HL.out.now hbx)
  try replace HE := Lib.hid (HE.out.now hbx)
  replace HB := Lib.hid (bT HB.out hbx)
  have HQ := Lib.hid (hS8.now hb9)
  have HN := Lib.hid (hM8.now hb9)
  have HP := Lib.hid ho9
  clear hM8 hS8 hb8 hb9 ho9 hbx KT
  clear p0a p1a p2a p3a p4a p5a p6a p7a p8a
  go_upto_region 9 with fail
  try rw [hW9]
  clear hW9
  obtain ⟨p0a, p1a, p2a, p3a, p4a, p5a, p6a, p7a, p8a⟩ := cells9 HX.out
  go_wp2_with fail
  refine (KU.out w9 hb79.out).mono ?_
  rintro e w10 ⟨_, rfl, u1, u2, u3, u4, rfl, hM10, hb10⟩
  obtain ⟨G1, g1, rfl, _⟩ := hM10.t.b
  obtain ⟨G2, g2, rfl, _⟩ := hM10.t.f
  obtain ⟨G3, g3, rfl, _⟩ := hM10.l
  obtain ⟨G4, g4, rfl, _⟩ := hM10.o
  obtain ⟨w11, hW11, ho11, hb11, _⟩ := box1 w10 #[.slice G1 Y.t.bs.length g1, .slice G2 Y.t.fs.length g2, .slice G3 Y.c.ls.length g3, .int .i64 Y.c.hand, .int .i64 Y.g.count, .int .i64 Y.g.next, .int .i64 Y.g.round, .slice G4 Y.g.os.length g4, .int .i64 Y.sp] 34
  have hbx := bT hb10 hb11
  try replace HM := Lib.hid (HM.out.now hbx)
  try replace HX := Lib.hid (HX.out.below hbx)
  try replace HK := Lib.hid (HK.out.below hbx)
  try replace HV := Lib.hid (HV.out.now hbx)
  try replace HY := Lib.hid (HY.out.below hbx)
  try replace HU := Lib.hid (HU.out.now hbx)
  try replace HZ := Lib.hid (HZ.out.below hbx)
  try replace HL := Lib.hid (HL.out.now hbx)
  try replace HE := Lib.hid (HE.out.now hbx)
  replace HB := Lib.hid (bT HB.out hbx)
  replace HQ := Lib.hid (HQ.out.now hbx)
  replace HN := Lib.hid (HN.out.now hbx)
  replace HP := Lib.hid (HP.out.below hbx)
  have HN2 := Lib.hid (hM10.now hb11)
  have HP2 := Lib.hid ho11
  clear hM10 hb10 hb11 ho11 hbx KU hb79
  clear p0a p1a p2a p3a p4a p5a p6a p7a p8a
  go_upto_region 10 with fail
  try rw [hW11]
  clear hW11
  have HSM := Lib.hid (fun (W : World) (hb : Below w11.heap.size w11 W) => MachineSame_same _ _ _ _ _ _ _ _ Y W (HN.out.now hb).r (HN2.out.now hb).r)
  obtain ⟨p0a, p1a, p2a, p3a, p4a, p5a, p6a, p7a, p8a⟩ := cells9 HP.out
  obtain ⟨p0b, p1b, p2b, p3b, p4b, p5b, p6b, p7b, p8b⟩ := cells9 HP2.out
  have x0a := xcell (w := w11) p0a HP.out.lt
  have x1a := xcell (w := w11) p1a HP.out.lt
  have x2a := xcell (w := w11) p2a HP.out.lt
  have x3a := xcell (w := w11) p3a HP.out.lt
  have x4a := xcell (w := w11) p4a HP.out.lt
  have x5a := xcell (w := w11) p5a HP.out.lt
  have x6a := xcell (w := w11) p6a HP.out.lt
  have x7a := xcell (w := w11) p7a HP.out.lt
  have x8a := xcell (w := w11) p8a HP.out.lt
  have x0b := xcell (w := w11) p0b HP2.out.lt
  have x1b := xcell (w := w11) p1b HP2.out.lt
  have x2b := xcell (w := w11) p2b HP2.out.lt
  have x3b := xcell (w := w11) p3b HP2.out.lt
  have x4b := xcell (w := w11) p4b HP2.out.lt
  have x5b := xcell (w := w11) p5b HP2.out.lt
  have x6b := xcell (w := w11) p6b HP2.out.lt
  have x7b := xcell (w := w11) p7b HP2.out.lt
  have x8b := xcell (w := w11) p8b HP2.out.lt
  clear p0a p1a p2a p3a p4a p5a p6a p7a p8a p0b p1b p2b p3b p4b p5b p6b p7b p8b
  have hl1 : L1.length ≤ 1 := by rcases hL1 with h | ⟨x, h⟩ <;> rw [h] <;> simp
  have hd1 : decide ((L1.length : Int) ≤ 1) = true := by simp; omega
  by_cases hl0 : L.length = 0
  ·have hz : ((L.length : Int) == 0) = true := by rw [hl0]; rfl
   clear hLL hL1 hl1 hl0
   go_wp2
   refine wp_region_ext (by kernel_rfl) (by kernel_rfl) ?_
   repeat (go_big_quiet_step ((go_at_call 16; exact ext_call (HSM.out _ (Ext.ok _)))))
   refine wpQuiet_nil ?_
   intro _ hw'
   obtain ⟨⟨wq, hq⟩, hw''⟩ := hw'
   subst hw''
   try dsimp only
   go_wp2
   go_ret
   exact ⟨rfl, bT HB.out hq⟩
  ·have hz : ((L.length : Int) == 0) = false := by rw [beq_eq_false_iff_ne]; omega
   obtain ⟨x, r, e1, e2⟩ : ∃ x r, L = x :: r ∧ L1 = [x] := by
    rcases hLL with h | h
    ·rw [h] at hl0; simp at hl0
    ·exact h
   have g1 : L[0]? = some x := by rw [e1]; rfl
   have g2 : L1[0]? = some x := by rw [e2]; rfl
   have hl1' : ((L1.length : Int) == 1) = true := by rw [e2]; rfl
   have hli : (0 : Int) < (L1.length : Int) := by rw [e2]; simp
   have hlj : (0 : Int) < (L.length : Int) := by omega
   obtain ⟨b1, o1, h1, hbb1, c1'⟩ := Rd.i1 (slm_rs2 HQ.out) g2
   obtain ⟨b2, o2, h2, hbb2, c2'⟩ := Rd.i1 (slm_rs2 HL.out) g1
   subst h1 h2
   have y1 := xcell (w := w11) c1' hbb1
   have y2 := xcell (w := w11) c2' hbb2
   simp only [Nat.add_zero] at y1 y2
   clear hLL hL1 hl1 hl0 e1 e2 g1 g2 c1' c2'
   go_wp2
   refine wp_region_ext (by kernel_rfl) (by kernel_rfl) ?_
   repeat (go_big_quiet_step ((go_at_call 16; exact ext_call (HSM.out _ (Ext.ok _)))))
   refine wpQuiet_nil ?_
   intro _ hw'
   obtain ⟨⟨wq, hq⟩, hw''⟩ := hw'
   subst hw''
   try dsimp only
   go_wp2
   go_ret
   exact ⟨rfl, bT HB.out hq⟩
end Go.Proofs.YtnaagdmaggdbmaaGreatDoor.lTouchOne
