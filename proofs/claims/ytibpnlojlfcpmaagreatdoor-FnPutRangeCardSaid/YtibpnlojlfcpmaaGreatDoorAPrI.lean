/- A part of the proofs of this seat: PrI. -/
import Derived.Test.YtibpnlojlfcpmaaGreatDoorALink
import Derived.Test.YtibpnlojlfcpmaaGreatDoorAMpS
set_option linter.unusedVariables false
set_option linter.unusedSimpArgs false
set_option maxRecDepth 1000000
namespace Go.Proofs.YtibpnlojlfcpmaaGreatDoor
open Go.RowKit
def putN (s p r : Int) (fs : List Int) (m : Ma) : Nat → Option Ma
 | 0 => some m
 | k + 1 => match putN s p r fs m k with
  | some m' => (match fs[k]? with
   | some f => if putOK m' s (p + k) f r = true then some (putV m' s (p + k) f r) else none
   | none => none)
  | none => none
theorem putN_step {s p r : Int} {fs : List Int} {m m' : Ma} {k : Nat} {f : Int} (h : putN s p r fs m k = some m') (e : fs[k]? = some f) (hok : putOK m' s (p + k) f r = true) : putN s p r fs m (k + 1) = some (putV m' s (p + k) f r) := by
 unfold putN
 rw [h]
 simp only [e]
 rw [if_pos hok]
theorem putN_bad {s p r : Int} {fs : List Int} {m m' : Ma} {k : Nat} {f : Int} (h : putN s p r fs m k = some m') (e : fs[k]? = some f) (hok : putOK m' s (p + k) f r = false) : putN s p r fs m (k + 1) = none := by
 unfold putN
 rw [h]
 simp only [e]
 rw [if_neg (by rw [hok]; decide)]
theorem putN_none {s p r : Int} {fs : List Int} {m : Ma} {k : Nat} (h : putN s p r fs m k = none) : ∀ {n : Nat}, k ≤ n → putN s p r fs m n = none := by
 intro n hn
 induction n with
 | zero => rw [show (0 : Nat) = k by omega]; exact h
 | succ n ih =>
  rcases Nat.lt_or_ge n k with hlt | hge
  ·rw [show n + 1 = k by omega]; exact h
  ·unfold putN
   rw [ih hge]
def prgO (m : Ma) (s p : Int) (fs : List Int) (r : Int) : Option Ma := if mav m = true ∧ 1 ≤ fs.length ∧ fs.length ≤ 16 then putN s p r fs m fs.length else none
theorem prgO_no {m : Ma} {s p : Int} {fs : List Int} {r : Int} (h : ¬ (mav m = true ∧ 1 ≤ fs.length ∧ fs.length ≤ 16)) : prgO m s p fs r = none := if_neg h
theorem prgO_yes {m : Ma} {s p : Int} {fs : List Int} {r : Int} (h : mav m = true) (h1 : 1 ≤ fs.length) (h2 : fs.length ≤ 16) : prgO m s p fs r = putN s p r fs m fs.length := if_pos ⟨h, h1, h2⟩
def prgV (m : Ma) (s p : Int) (fs : List Int) (r : Int) : Ma := (prgO m s p fs r).getD maz
theorem putN_kval {s p r : Int} {fs : List Int} {m m' : Ma} {k : Nat} (h : putN s p r fs m (k + 1) = some m') : kval (s, p) = true := by
 cases h1 : putN s p r fs m 1 with
 | none => rw [putN_none h1 (by omega)] at h; cases h
 | some m1 =>
  unfold putN at h1
  simp only [putN] at h1
  cases e : fs[0]? with
  | none => rw [e] at h1; cases h1
  | some f =>
   rw [e] at h1
   simp only at h1
   split at h1
   ·rename_i hok
    unfold putOK mapOK at hok
    simp only [Bool.and_eq_true] at hok
    have := hok.2.1.1.1.1.2
    simpa using this
   ·cases h1
set_option maxHeartbeats 2000000 in
theorem sPutRange_any (vb vf vl vo : Value) (m : Ma) (s p : Int) (A : Option Addr) (c : Nat) (fs : List Int) (r : Int) (w : World) (hM : MaR w vb vf vl vo m) (hR : Rs intE w.heap.size w A fs) (hl : fs.length ≤ 1048576) (hp : -9223372036854775808 ≤ p ∧ p ≤ 9223372036854775807) :
    Calls Tryz.prog 34 #[.agg #[vb, vf, vl, .int .i64 m.c.hand, .int .i64 m.g.count, .int .i64 m.g.next, .int .i64 m.g.round, vo, .int .i64 m.sp], .agg #[.int .i64 s, .int .i64 p], .slice A fs.length c, .int .i64 r] w (Post2 fun v w' => ∃ v1 v2 v3 v4, v = .tuple #[.agg #[v1, v2, v3, .int .i64 (prgV m s p fs r).c.hand, .int .i64 (prgV m s p fs r).g.count, .int .i64 (prgV m s p fs r).g.next, .int .i64 (prgV m s p fs r).g.round, v4, .int .i64 (prgV m s p fs r).sp], .bool (prgO m s p fs r).isSome] ∧ MaM w.heap.size w' v1 v2 v3 v4 (prgV m s p fs r) ∧ Below w.heap.size w w') := by
  obtain ⟨W0, hW, hbx, hbk, hbo, hb0, hs0⟩ := box3 w #[vb, vf, vl, .int .i64 m.c.hand, .int .i64 m.g.count, .int .i64 m.g.next, .int .i64 m.g.round, vo, .int .i64 m.sp] 48 #[.int .i64 s, .int .i64 p] 61 #[.slice none 0 0, .slice none 0 0, .slice none 0 0, .int .i64 0, .int .i64 0, .int .i64 0, .int .i64 0, .slice none 0 0, .int .i64 0] 48
  have HX0 := Hd hbx
  have HK0 := Hd hbk
  have HR0 := Hd hbo
  have HB0 := Hd hb0
  have HS0 : Hid (w.heap.size + 3 ≤ W0.heap.size) := Nat.le_of_eq hs0.symm
  clear hbx hbk hbo hb0
  have HM := Hd hM
  clear hM
  obtain ⟨m00, m10, m20, m30, m40, m50, m60, m70, m80⟩ := cells9 HX0.out
  go_enter Tryz.func34, Tryz.ntmps34
  go_wp2_with fail
  refine (sMachineValid_any vb vf vl vo m _ (HM.out.now HB0.out)).mono ?_
  rintro e w1 ⟨rfl, hb1⟩
  have HX1 := Hd (HX0.out.below hb1)
  have HK1 := Hd (HK0.out.below hb1)
  have HR1 := Hd (HR0.out.below hb1)
  have HB1 := Hd (bT HB0.out hb1)
  have HS1 := Hd (Nat.le_trans HS0.out hb1.size)
  clear hb1
  clear m00 m10 m20 m30 m40 m50 m60 m70 m80
  cases h1 : mav m with
  | false =>
    have HO : Hid (prgO m s p fs r = none) := prgO_no (fun h => by rw [h1] at h; cases h.1)
    have HA : Hid ((prgO m s p fs r).isSome = false) := by show _ = _; rw [HO.out]; rfl
    have HV : Hid (prgV m s p fs r = maz) := by show _ = _; unfold prgV; rw [HO.out]; rfl
    obtain ⟨r0x, r1x, r2x, r3x, r4x, r5x, r6x, r7x, r8x⟩ := cells9 HR1.out
    obtain ⟨z0x, z1x, z2x, z3x, z4x, z5x, z6x, z7x, z8x⟩ := free9 HR1.out
    go_wp2
    obtain ⟨t0, t1, t2, t3, t4, t5, t6, t7, t8⟩ := cells9 (set9z HR1.out)
    refine bodyPost_ret (v := .tuple #[.agg #[.slice none 0 0, .slice none 0 0, .slice none 0 0, .int .i64 0, .int .i64 0, .int .i64 0, .int .i64 0, .slice none 0 0, .int .i64 0], .bool false]) (by simp [results, Tryz.results34, go_sem, t0, t1, t2, t3, t4, t5, t6, t7, t8]) rfl ⟨_, rfl, _, _, _, _, by rw [HA.out, HV.out]; rfl, by rw [HV.out]; exact mam_z, ?_⟩
    repeat (refine bS ?_ (by simp <;> omega))
    exact HB1.out
  | true =>
  by_cases h2 : fs.length < 1
  · have HO : Hid (prgO m s p fs r = none) := prgO_no (fun h => by omega)
    have HA : Hid ((prgO m s p fs r).isSome = false) := by show _ = _; rw [HO.out]; rfl
    have HV : Hid (prgV m s p fs r = maz) := by show _ = _; unfold prgV; rw [HO.out]; rfl
    obtain ⟨r0x, r1x, r2x, r3x, r4x, r5x, r6x, r7x, r8x⟩ := cells9 HR1.out
    obtain ⟨z0x, z1x, z2x, z3x, z4x, z5x, z6x, z7x, z8x⟩ := free9 HR1.out
    go_wp2
    obtain ⟨t0, t1, t2, t3, t4, t5, t6, t7, t8⟩ := cells9 (set9z HR1.out)
    refine bodyPost_ret (v := .tuple #[.agg #[.slice none 0 0, .slice none 0 0, .slice none 0 0, .int .i64 0, .int .i64 0, .int .i64 0, .int .i64 0, .slice none 0 0, .int .i64 0], .bool false]) (by simp [results, Tryz.results34, go_sem, t0, t1, t2, t3, t4, t5, t6, t7, t8]) rfl ⟨_, rfl, _, _, _, _, by rw [HA.out, HV.out]; rfl, by rw [HV.out]; exact mam_z, ?_⟩
    repeat (refine bS ?_ (by simp <;> omega))
    exact HB1.out
  by_cases h3 : 16 < fs.length
  · have HO : Hid (prgO m s p fs r = none) := prgO_no (fun h => by omega)
    have HA : Hid ((prgO m s p fs r).isSome = false) := by show _ = _; rw [HO.out]; rfl
    have HV : Hid (prgV m s p fs r = maz) := by show _ = _; unfold prgV; rw [HO.out]; rfl
    obtain ⟨r0x, r1x, r2x, r3x, r4x, r5x, r6x, r7x, r8x⟩ := cells9 HR1.out
    obtain ⟨z0x, z1x, z2x, z3x, z4x, z5x, z6x, z7x, z8x⟩ := free9 HR1.out
    go_wp2
    obtain ⟨t0, t1, t2, t3, t4, t5, t6, t7, t8⟩ := cells9 (set9z HR1.out)
    refine bodyPost_ret (v := .tuple #[.agg #[.slice none 0 0, .slice none 0 0, .slice none 0 0, .int .i64 0, .int .i64 0, .int .i64 0, .int .i64 0, .slice none 0 0, .int .i64 0], .bool false]) (by simp [results, Tryz.results34, go_sem, t0, t1, t2, t3, t4, t5, t6, t7, t8]) rfl ⟨_, rfl, _, _, _, _, by rw [HA.out, HV.out]; rfl, by rw [HV.out]; exact mam_z, ?_⟩
    repeat (refine bS ?_ (by simp <;> omega))
    exact HB1.out
  obtain ⟨a1, a2, a3, a4⟩ := mav_len h1
  have hi1 : 1 ≤ fs.length := by omega
  have hi2 : fs.length ≤ 16 := by omega
  obtain ⟨m01, m11, m21, m31, m41, m51, m61, m71, m81⟩ := cells9 HX1.out
  go_wp2_with fail
  refine (l6Copy_any vb vf vl vo m _ (HM.out.now HB1.out) a1 a2 a3 a4).mono ?_
  rintro e w2 ⟨_, rfl, b1, b2, b3, b4, rfl, hM2, hb2⟩
  have hs1 := HS1.out
  have HM2 := Hd (hM2.mono hs1)
  obtain ⟨B1, d1, rfl, _⟩ := HM2.out.t.b
  obtain ⟨B2, d2, rfl, _⟩ := HM2.out.t.f
  obtain ⟨B3, d3, rfl, _⟩ := HM2.out.l
  obtain ⟨B4, d4, rfl, _⟩ := HM2.out.o
  clear hM2
  have HRF := Hd hR
  have HM0 := HM2
  have HX2 := Hd (HX1.out.below hb2)
  have HK2 := Hd (HK1.out.below hb2)
  have HR2 := Hd (HR1.out.below hb2)
  have HB2 := Hd (bT HB1.out hb2)
  have HS2 := Hd (Nat.le_trans HS1.out hb2.size)
  clear hb2
  clear m01 m11 m21 m31 m41 m51 m61 m71 m81
  clear hR
  have hgb := HR2.out.lt
  have ho2 := Own.new_ w2 48 #[.slice B1 m.t.bs.length d1, .slice B2 m.t.fs.length d2, .slice B3 m.c.ls.length d3, .int .i64 m.c.hand, .int .i64 m.g.count, .int .i64 m.g.next, .int .i64 m.g.round, .slice B4 m.g.os.length d4, .int .i64 m.sp]
  have HO2 := Hd ho2
  have hgw := ho2.lt
  have hpw : ∀ (k : Nat) (mk : Ma), putN s p r fs m k = some mk → k < 16 → IntKind.i64.wrap (p + (k : Int)) = p + k := by
    intro k mk h hk
    rcases k with _ | k
    · exact IntWalk.i64_in _ (by omega)
    · have := kval_iff.1 (putN_kval h)
      exact IntWalk.i64_in _ (by omega)
  have HPW := Hd hpw
  have HK3 := Hd (HK2.out.alloc (o := .cells #[.slice B1 m.t.bs.length d1, .slice B2 m.t.fs.length d2, .slice B3 m.c.ls.length d3, .int .i64 m.c.hand, .int .i64 m.g.count, .int .i64 m.g.next, .int .i64 m.g.round, .slice B4 m.g.os.length d4, .int .i64 m.sp] 48))
  have HR3 := Hd (HR2.out.alloc (o := .cells #[.slice B1 m.t.bs.length d1, .slice B2 m.t.fs.length d2, .slice B3 m.c.ls.length d3, .int .i64 m.c.hand, .int .i64 m.g.count, .int .i64 m.g.next, .int .i64 m.g.round, .slice B4 m.g.os.length d4, .int .i64 m.sp] 48))
  clear hpw ho2
  go_wp2
  go_loopw [11] (fun u wr => ∃ (k : Nat) (mk : Ma) (c1 c2 c3 c4 : Value), k ≤ fs.length ∧ u = .int .i64 k ∧ Hid (putN s p r fs m k = some mk) ∧ Own wr w2.heap.size 48 #[c1, c2, c3, .int .i64 mk.c.hand, .int .i64 mk.g.count, .int .i64 mk.g.next, .int .i64 mk.g.round, c4, .int .i64 mk.sp] ∧ MaM (w.heap.size + 3) wr c1 c2 c3 c4 mk ∧ Own wr (w.heap.size + 1) 61 #[.int .i64 s, .int .i64 p] ∧ Own wr (w.heap.size + 1 + 1) 48 #[.slice none 0 0, .slice none 0 0, .slice none 0 0, .int .i64 0, .int .i64 0, .int .i64 0, .int .i64 0, .slice none 0 0, .int .i64 0] ∧ Below w.heap.size w wr) (fun u _ => fs.length - (intOf u).toNat)
  case atStart => exact ⟨0, m, _, _, _, _, by omega, rfl, rfl, HO2.out, HM0.out.now (bA bR), HK3.out, HR3.out, bA HB2.out⟩
  case round =>
    obtain ⟨k, mk, c1, c2, c3, c4, hk, rfl, hput, hob, hmk, hkb, hrb, hbw⟩ := hrel
    have HOB := Hd hob
    have HMK := Hd hmk
    have HKB := Hd hkb
    have HRB := Hd hrb
    have HBW := Hd hbw
    clear hob hmk hkb hrb hbw
    by_cases hlt : k < fs.length
    · obtain ⟨f, ef⟩ : ∃ f, fs[k]? = some f := ⟨_, List.getElem?_eq_getElem hlt⟩
      obtain ⟨b5, o5, rfl, hb5, y0w⟩ := HRF.out.i1 ef
      have y0 := (HBW.out.cell (p := ⟨b5, o5 + k, none⟩) hb5).trans y0w
      have hwk := HPW.out k mk hput.out (by omega)
      have EF := Hd ef
      have Y0 := Hd y0w
      obtain ⟨p0, p1, p2, p3, p4, p5, p6, p7, p8⟩ := cells9 HOB.out
      have q0 := HKB.out.cell_ 0 (v := .int .i64 s) rfl
      have q1 := HKB.out.cell_ 1 (v := .int .i64 p) rfl
      clear ef
      have hgl0 := HOB.out.lt
      have hwb := HBW.out.size
      have i1 : wr.heap.size ≠ w2.heap.size := by omega
      have i2 : w2.heap.size ≠ wr.heap.size := by omega
      have i3 : wr.heap.size ≠ w.heap.size + 1 := by omega
      have i4 : w.heap.size + 1 ≠ wr.heap.size := by omega
      have i5 : wr.heap.size ≠ b5 := by omega
      have i6 : b5 ≠ wr.heap.size := by omega
      go_wp2
      go_region_held_law (fun w' => w'.cell? ⟨w2.heap.size, 0, none⟩ = some c1 ∧ w'.cell? ⟨w2.heap.size, 1, none⟩ = some c2 ∧ w'.cell? ⟨w2.heap.size, 2, none⟩ = some c3 ∧ w'.cell? ⟨w2.heap.size, 3, none⟩ = some (.int .i64 mk.c.hand) ∧ w'.cell? ⟨w2.heap.size, 4, none⟩ = some (.int .i64 mk.g.count) ∧ w'.cell? ⟨w2.heap.size, 5, none⟩ = some (.int .i64 mk.g.next) ∧ w'.cell? ⟨w2.heap.size, 6, none⟩ = some (.int .i64 mk.g.round) ∧ w'.cell? ⟨w2.heap.size, 7, none⟩ = some c4 ∧ w'.cell? ⟨w2.heap.size, 8, none⟩ = some (.int .i64 mk.sp) ∧ w'.cell? ⟨w.heap.size + 1, 0, none⟩ = some (.int .i64 s) ∧ w'.cell? ⟨w.heap.size + 1, 1, none⟩ = some (.int .i64 p) ∧ w'.cell? ⟨b5, o5 + k, none⟩ = some (.int .i64 f)) (go_keep) (first
        | (go_at_call 100
           refine (sPutPage_any c1 c2 c3 c4 mk s (p + k) f r _ (HMK.out.r.now (bD bR))).mono ?_
           rintro _ w5 ⟨_, rfl, e1, e2, e3, e4, rfl, hM5, hb5'⟩
           have HBW5 := Hd (bT (bD HBW.out) hb5')
           have HOB5 := Hd ((HOB.out).drew.below hb5')
           have HKB5 := Hd ((HKB.out).drew.below hb5')
           have HRB5 := Hd ((HRB.out).drew.below hb5')
           have hsw : w.heap.size + 3 ≤ (wr.drew).heap.size := Nat.le_trans (Nat.le_trans HS2.out (Nat.le_of_lt HOB.out.lt)) (show wr.heap.size ≤ _ by simp)
           have HM5 := Hd (hM5.mono hsw)
           obtain ⟨E1, n1, rfl, _⟩ := HM5.out.t.b
           obtain ⟨E2, n2, rfl, _⟩ := HM5.out.t.f
           obtain ⟨E3, n3, rfl, _⟩ := HM5.out.l
           obtain ⟨E4, n4, rfl, _⟩ := HM5.out.o
           have y5 := (hb5'.cell (p := ⟨b5, o5 + k, none⟩) (Nat.lt_of_lt_of_le hb5 (bD HBW.out).size)).trans (((bD HBW.out).cell (p := ⟨b5, o5 + k, none⟩) hb5).trans Y0.out)
           obtain ⟨p0z, p1z, p2z, p3z, p4z, p5z, p6z, p7z, p8z⟩ := cells9 HOB5.out
           have q0z := HKB5.out.cell_ 0 (v := .int .i64 s) rfl
           have q1z := HKB5.out.cell_ 1 (v := .int .i64 p) rfl
           have hgl5 := HOB5.out.lt
           have hrl5 := HRB5.out.lt
           clear hM5 hb5' p0 p1 p2 p3 p4 p5 p6 p7 p8 q0 q1)
        | (go_at_call 100
           refine (sPutPage_any c1 c2 c3 c4 mk s (p + k) f r _ (HMK.out.r.now (bD (bA bR)))).mono ?_
           rintro _ w5 ⟨_, rfl, e1, e2, e3, e4, rfl, hM5, hb5'⟩
           have HBW5 := Hd (bT (bD (bA HBW.out)) hb5')
           have HOB5 := Hd ((HOB.out.alloc (o := .cells #[.slice none 0 0, .slice none 0 0, .slice none 0 0, .int .i64 0, .int .i64 0, .int .i64 0, .int .i64 0, .slice none 0 0, .int .i64 0] 48)).drew.below hb5')
           have HKB5 := Hd ((HKB.out.alloc (o := .cells #[.slice none 0 0, .slice none 0 0, .slice none 0 0, .int .i64 0, .int .i64 0, .int .i64 0, .int .i64 0, .slice none 0 0, .int .i64 0] 48)).drew.below hb5')
           have HRB5 := Hd ((HRB.out.alloc (o := .cells #[.slice none 0 0, .slice none 0 0, .slice none 0 0, .int .i64 0, .int .i64 0, .int .i64 0, .int .i64 0, .slice none 0 0, .int .i64 0] 48)).drew.below hb5')
           have hsw : w.heap.size + 3 ≤ ((wr.alloc (.cells #[.slice none 0 0, .slice none 0 0, .slice none 0 0, .int .i64 0, .int .i64 0, .int .i64 0, .int .i64 0, .slice none 0 0, .int .i64 0] 48)).drew).heap.size := Nat.le_trans (Nat.le_trans HS2.out (Nat.le_of_lt HOB.out.lt)) (show wr.heap.size ≤ _ by simp)
           have HM5 := Hd (hM5.mono hsw)
           obtain ⟨E1, n1, rfl, _⟩ := HM5.out.t.b
           obtain ⟨E2, n2, rfl, _⟩ := HM5.out.t.f
           obtain ⟨E3, n3, rfl, _⟩ := HM5.out.l
           obtain ⟨E4, n4, rfl, _⟩ := HM5.out.o
           have y5 := (hb5'.cell (p := ⟨b5, o5 + k, none⟩) (Nat.lt_of_lt_of_le hb5 (bD (bA HBW.out)).size)).trans (((bD (bA HBW.out)).cell (p := ⟨b5, o5 + k, none⟩) hb5).trans Y0.out)
           obtain ⟨p0z, p1z, p2z, p3z, p4z, p5z, p6z, p7z, p8z⟩ := cells9 HOB5.out
           have q0z := HKB5.out.cell_ 0 (v := .int .i64 s) rfl
           have q1z := HKB5.out.cell_ 1 (v := .int .i64 p) rfl
           have hgl5 := HOB5.out.lt
           have hrl5 := HRB5.out.lt
           have HN5 := Hd ((Own.new_ wr 48 #[.slice none 0 0, .slice none 0 0, .slice none 0 0, .int .i64 0, .int .i64 0, .int .i64 0, .int .i64 0, .slice none 0 0, .int .i64 0]).drew.below hb5')
           have hnl5 := HN5.out.lt
           have hnl := HOB.out.lt
           obtain ⟨r0n, r1n, r2n, r3n, r4n, r5n, r6n, r7n, r8n⟩ := cells9 HN5.out
           obtain ⟨z0n, z1n, z2n, z3n, z4n, z5n, z6n, z7n, z8n⟩ := free9 HN5.out
           clear hM5 hb5' p0 p1 p2 p3 p4 p5 p6 p7 p8 q0 q1))
      · have hO6 := HOB5.out.alloc (o := .cells #[.slice E1 (putV mk s (p + k) f r).t.bs.length n1, .slice E2 (putV mk s (p + k) f r).t.fs.length n2, .slice E3 (putV mk s (p + k) f r).c.ls.length n3, .int .i64 (putV mk s (p + k) f r).c.hand, .int .i64 (putV mk s (p + k) f r).g.count, .int .i64 (putV mk s (p + k) f r).g.next, .int .i64 (putV mk s (p + k) f r).g.round, .slice E4 (putV mk s (p + k) f r).g.os.length n4, .int .i64 (putV mk s (p + k) f r).sp] 48)
        have hK6 := HKB5.out.alloc (o := .cells #[.slice E1 (putV mk s (p + k) f r).t.bs.length n1, .slice E2 (putV mk s (p + k) f r).t.fs.length n2, .slice E3 (putV mk s (p + k) f r).c.ls.length n3, .int .i64 (putV mk s (p + k) f r).c.hand, .int .i64 (putV mk s (p + k) f r).g.count, .int .i64 (putV mk s (p + k) f r).g.next, .int .i64 (putV mk s (p + k) f r).g.round, .slice E4 (putV mk s (p + k) f r).g.os.length n4, .int .i64 (putV mk s (p + k) f r).sp] 48)
        have hR6 := HRB5.out.alloc (o := .cells #[.slice E1 (putV mk s (p + k) f r).t.bs.length n1, .slice E2 (putV mk s (p + k) f r).t.fs.length n2, .slice E3 (putV mk s (p + k) f r).c.ls.length n3, .int .i64 (putV mk s (p + k) f r).c.hand, .int .i64 (putV mk s (p + k) f r).g.count, .int .i64 (putV mk s (p + k) f r).g.next, .int .i64 (putV mk s (p + k) f r).g.round, .slice E4 (putV mk s (p + k) f r).g.os.length n4, .int .i64 (putV mk s (p + k) f r).sp] 48)
        have hN6 := Own.new_ w5 48 #[.slice E1 (putV mk s (p + k) f r).t.bs.length n1, .slice E2 (putV mk s (p + k) f r).t.fs.length n2, .slice E3 (putV mk s (p + k) f r).c.ls.length n3, .int .i64 (putV mk s (p + k) f r).c.hand, .int .i64 (putV mk s (p + k) f r).g.count, .int .i64 (putV mk s (p + k) f r).g.next, .int .i64 (putV mk s (p + k) f r).g.round, .slice E4 (putV mk s (p + k) f r).g.os.length n4, .int .i64 (putV mk s (p + k) f r).sp]
        have hM6 := HM5.out.now (bA (bR (w := w5)) (o := .cells #[.slice E1 (putV mk s (p + k) f r).t.bs.length n1, .slice E2 (putV mk s (p + k) f r).t.fs.length n2, .slice E3 (putV mk s (p + k) f r).c.ls.length n3, .int .i64 (putV mk s (p + k) f r).c.hand, .int .i64 (putV mk s (p + k) f r).g.count, .int .i64 (putV mk s (p + k) f r).g.next, .int .i64 (putV mk s (p + k) f r).g.round, .slice E4 (putV mk s (p + k) f r).g.os.length n4, .int .i64 (putV mk s (p + k) f r).sp] 48))
        have hB6 := bA HBW5.out (o := .cells #[.slice E1 (putV mk s (p + k) f r).t.bs.length n1, .slice E2 (putV mk s (p + k) f r).t.fs.length n2, .slice E3 (putV mk s (p + k) f r).c.ls.length n3, .int .i64 (putV mk s (p + k) f r).c.hand, .int .i64 (putV mk s (p + k) f r).g.count, .int .i64 (putV mk s (p + k) f r).g.next, .int .i64 (putV mk s (p + k) f r).g.round, .slice E4 (putV mk s (p + k) f r).g.os.length n4, .int .i64 (putV mk s (p + k) f r).sp] 48)
        clear y5 y0 p0z p1z p2z p3z p4z p5z p6z p7z p8z q0z q1z
        generalize hgn : w5.heap.size = gn at *
        have hne1 : w2.heap.size ≠ gn := by omega
        generalize hW6 : w5.alloc (.cells #[.slice E1 (putV mk s (p + k) f r).t.bs.length n1, .slice E2 (putV mk s (p + k) f r).t.fs.length n2, .slice E3 (putV mk s (p + k) f r).c.ls.length n3, .int .i64 (putV mk s (p + k) f r).c.hand, .int .i64 (putV mk s (p + k) f r).g.count, .int .i64 (putV mk s (p + k) f r).g.next, .int .i64 (putV mk s (p + k) f r).g.round, .slice E4 (putV mk s (p + k) f r).g.os.length n4, .int .i64 (putV mk s (p + k) f r).sp] 48) = w6 at *
        have HO6 := Hd hO6
        have HK6 := Hd hK6
        have HR6 := Hd hR6
        have HN6 := Hd hN6
        have HM6 := Hd hM6
        have HB6 := Hd hB6
        clear hO6 hK6 hR6 hN6 hM6 hB6
        have hl6 := HO6.out.lt
        have hl7 := HR6.out.lt
        have hl8 := HN6.out.lt
        cases hok : putOK mk s (p + k) f r with
        | false =>
          have HO : Hid (prgO m s p fs r = none) := by show _ = _; rw [prgO_yes h1 hi1 hi2]; exact putN_none (putN_bad hput.out EF.out hok) (by omega)
          have HA : Hid ((prgO m s p fs r).isSome = false) := by show _ = _; rw [HO.out]; rfl
          have HV : Hid (prgV m s p fs r = maz) := by show _ = _; unfold prgV; rw [HO.out]; rfl
          obtain ⟨r0x, r1x, r2x, r3x, r4x, r5x, r6x, r7x, r8x⟩ := cells9 HR6.out
          obtain ⟨z0x, z1x, z2x, z3x, z4x, z5x, z6x, z7x, z8x⟩ := free9 HR6.out
          go_wp2
          obtain ⟨t0, t1, t2, t3, t4, t5, t6, t7, t8⟩ := cells9 (set9z HR6.out)
          refine bodyPost_ret (v := .tuple #[.agg #[.slice none 0 0, .slice none 0 0, .slice none 0 0, .int .i64 0, .int .i64 0, .int .i64 0, .int .i64 0, .slice none 0 0, .int .i64 0], .bool false]) (by simp [results, Tryz.results34, go_sem, t0, t1, t2, t3, t4, t5, t6, t7, t8]) rfl ⟨_, rfl, _, _, _, _, by rw [HA.out, HV.out]; rfl, by rw [HV.out]; exact mam_z, ?_⟩
          repeat (refine bS ?_ (by simp <;> omega))
          exact HB6.out
        | true =>
          have HPUT := Hd (putN_step hput.out EF.out hok)
          obtain ⟨p0z, p1z, p2z, p3z, p4z, p5z, p6z, p7z, p8z⟩ := cells9 HO6.out
          obtain ⟨w0z, w1z, w2z, w3z, w4z, w5z, w6z, w7z, w8z⟩ := free9 HO6.out
          obtain ⟨p0n, p1n, p2n, p3n, p4n, p5n, p6n, p7n, p8n⟩ := cells9 HN6.out
          go_wp2
          go_roundw
          case rel =>
            refine ⟨k + 1, putV mk s (p + k) f r, _, _, _, _, by omega, by go_num, HPUT, HO6.out.set9 _ _ _ _ _ _ _ _ _, HM6.out.far9 HO6.out _ _ _ _ _ _ _ _ _, HK6.out.far9 (by omega) _ _ _ _ _ _ _ _ _, HR6.out.far9 (by omega) _ _ _ _ _ _ _ _ _, ?_⟩
            repeat (refine bS ?_ (by simp <;> omega))
            exact HB6.out
          case measure => simp [intOf]; omega
      · have hN6 := HN5.out.set9 (.slice E1 (putV mk s (p + k) f r).t.bs.length n1) (.slice E2 (putV mk s (p + k) f r).t.fs.length n2) (.slice E3 (putV mk s (p + k) f r).c.ls.length n3) (.int .i64 (putV mk s (p + k) f r).c.hand) (.int .i64 (putV mk s (p + k) f r).g.count) (.int .i64 (putV mk s (p + k) f r).g.next) (.int .i64 (putV mk s (p + k) f r).g.round) (.slice E4 (putV mk s (p + k) f r).g.os.length n4) (.int .i64 (putV mk s (p + k) f r).sp)
        have hO6 := HOB5.out.far9 (g := wr.heap.size) (by omega) (.slice E1 (putV mk s (p + k) f r).t.bs.length n1) (.slice E2 (putV mk s (p + k) f r).t.fs.length n2) (.slice E3 (putV mk s (p + k) f r).c.ls.length n3) (.int .i64 (putV mk s (p + k) f r).c.hand) (.int .i64 (putV mk s (p + k) f r).g.count) (.int .i64 (putV mk s (p + k) f r).g.next) (.int .i64 (putV mk s (p + k) f r).g.round) (.slice E4 (putV mk s (p + k) f r).g.os.length n4) (.int .i64 (putV mk s (p + k) f r).sp)
        have hK6 := HKB5.out.far9 (g := wr.heap.size) (by omega) (.slice E1 (putV mk s (p + k) f r).t.bs.length n1) (.slice E2 (putV mk s (p + k) f r).t.fs.length n2) (.slice E3 (putV mk s (p + k) f r).c.ls.length n3) (.int .i64 (putV mk s (p + k) f r).c.hand) (.int .i64 (putV mk s (p + k) f r).g.count) (.int .i64 (putV mk s (p + k) f r).g.next) (.int .i64 (putV mk s (p + k) f r).g.round) (.slice E4 (putV mk s (p + k) f r).g.os.length n4) (.int .i64 (putV mk s (p + k) f r).sp)
        have hR6 := HRB5.out.far9 (g := wr.heap.size) (by omega) (.slice E1 (putV mk s (p + k) f r).t.bs.length n1) (.slice E2 (putV mk s (p + k) f r).t.fs.length n2) (.slice E3 (putV mk s (p + k) f r).c.ls.length n3) (.int .i64 (putV mk s (p + k) f r).c.hand) (.int .i64 (putV mk s (p + k) f r).g.count) (.int .i64 (putV mk s (p + k) f r).g.next) (.int .i64 (putV mk s (p + k) f r).g.round) (.slice E4 (putV mk s (p + k) f r).g.os.length n4) (.int .i64 (putV mk s (p + k) f r).sp)
        have hM6 := HM5.out.far9 HN5.out (.slice E1 (putV mk s (p + k) f r).t.bs.length n1) (.slice E2 (putV mk s (p + k) f r).t.fs.length n2) (.slice E3 (putV mk s (p + k) f r).c.ls.length n3) (.int .i64 (putV mk s (p + k) f r).c.hand) (.int .i64 (putV mk s (p + k) f r).g.count) (.int .i64 (putV mk s (p + k) f r).g.next) (.int .i64 (putV mk s (p + k) f r).g.round) (.slice E4 (putV mk s (p + k) f r).g.os.length n4) (.int .i64 (putV mk s (p + k) f r).sp)
        have hB6 : Below w.heap.size w (((((((((w5.setCell ⟨wr.heap.size, 0, none⟩ (.slice E1 (putV mk s (p + k) f r).t.bs.length n1)).setCell ⟨wr.heap.size, 1, none⟩ (.slice E2 (putV mk s (p + k) f r).t.fs.length n2)).setCell ⟨wr.heap.size, 2, none⟩ (.slice E3 (putV mk s (p + k) f r).c.ls.length n3)).setCell ⟨wr.heap.size, 3, none⟩ (.int .i64 (putV mk s (p + k) f r).c.hand)).setCell ⟨wr.heap.size, 4, none⟩ (.int .i64 (putV mk s (p + k) f r).g.count)).setCell ⟨wr.heap.size, 5, none⟩ (.int .i64 (putV mk s (p + k) f r).g.next)).setCell ⟨wr.heap.size, 6, none⟩ (.int .i64 (putV mk s (p + k) f r).g.round)).setCell ⟨wr.heap.size, 7, none⟩ (.slice E4 (putV mk s (p + k) f r).g.os.length n4)).setCell ⟨wr.heap.size, 8, none⟩ (.int .i64 (putV mk s (p + k) f r).sp)) := by
          repeat (refine bS ?_ (by simp <;> omega))
          exact HBW5.out
        clear y5 y0 p0z p1z p2z p3z p4z p5z p6z p7z p8z q0z q1z r0n r1n r2n r3n r4n r5n r6n r7n r8n z0n z1n z2n z3n z4n z5n z6n z7n z8n
        have hne1 : w2.heap.size ≠ wr.heap.size := by omega
        generalize hgn : wr.heap.size = gn at *
        generalize hW6 : ((((((((w5.setCell ⟨gn, 0, none⟩ (.slice E1 (putV mk s (p + k) f r).t.bs.length n1)).setCell ⟨gn, 1, none⟩ (.slice E2 (putV mk s (p + k) f r).t.fs.length n2)).setCell ⟨gn, 2, none⟩ (.slice E3 (putV mk s (p + k) f r).c.ls.length n3)).setCell ⟨gn, 3, none⟩ (.int .i64 (putV mk s (p + k) f r).c.hand)).setCell ⟨gn, 4, none⟩ (.int .i64 (putV mk s (p + k) f r).g.count)).setCell ⟨gn, 5, none⟩ (.int .i64 (putV mk s (p + k) f r).g.next)).setCell ⟨gn, 6, none⟩ (.int .i64 (putV mk s (p + k) f r).g.round)).setCell ⟨gn, 7, none⟩ (.slice E4 (putV mk s (p + k) f r).g.os.length n4)).setCell ⟨gn, 8, none⟩ (.int .i64 (putV mk s (p + k) f r).sp) = w6 at *
        have HO6 := Hd hO6
        have HK6 := Hd hK6
        have HR6 := Hd hR6
        have HN6 := Hd hN6
        have HM6 := Hd hM6
        have HB6 := Hd hB6
        clear hO6 hK6 hR6 hN6 hM6 hB6
        have hl6 := HO6.out.lt
        have hl7 := HR6.out.lt
        have hl8 := HN6.out.lt
        cases hok : putOK mk s (p + k) f r with
        | false =>
          have HO : Hid (prgO m s p fs r = none) := by show _ = _; rw [prgO_yes h1 hi1 hi2]; exact putN_none (putN_bad hput.out EF.out hok) (by omega)
          have HA : Hid ((prgO m s p fs r).isSome = false) := by show _ = _; rw [HO.out]; rfl
          have HV : Hid (prgV m s p fs r = maz) := by show _ = _; unfold prgV; rw [HO.out]; rfl
          obtain ⟨r0x, r1x, r2x, r3x, r4x, r5x, r6x, r7x, r8x⟩ := cells9 HR6.out
          obtain ⟨z0x, z1x, z2x, z3x, z4x, z5x, z6x, z7x, z8x⟩ := free9 HR6.out
          go_wp2
          obtain ⟨t0, t1, t2, t3, t4, t5, t6, t7, t8⟩ := cells9 (set9z HR6.out)
          refine bodyPost_ret (v := .tuple #[.agg #[.slice none 0 0, .slice none 0 0, .slice none 0 0, .int .i64 0, .int .i64 0, .int .i64 0, .int .i64 0, .slice none 0 0, .int .i64 0], .bool false]) (by simp [results, Tryz.results34, go_sem, t0, t1, t2, t3, t4, t5, t6, t7, t8]) rfl ⟨_, rfl, _, _, _, _, by rw [HA.out, HV.out]; rfl, by rw [HV.out]; exact mam_z, ?_⟩
          repeat (refine bS ?_ (by simp <;> omega))
          exact HB6.out
        | true =>
          have HPUT := Hd (putN_step hput.out EF.out hok)
          obtain ⟨p0z, p1z, p2z, p3z, p4z, p5z, p6z, p7z, p8z⟩ := cells9 HO6.out
          obtain ⟨w0z, w1z, w2z, w3z, w4z, w5z, w6z, w7z, w8z⟩ := free9 HO6.out
          obtain ⟨p0n, p1n, p2n, p3n, p4n, p5n, p6n, p7n, p8n⟩ := cells9 HN6.out
          go_wp2
          go_roundw
          case rel =>
            refine ⟨k + 1, putV mk s (p + k) f r, _, _, _, _, by omega, by go_num, HPUT, HO6.out.set9 _ _ _ _ _ _ _ _ _, HM6.out.far9 HO6.out _ _ _ _ _ _ _ _ _, HK6.out.far9 (by omega) _ _ _ _ _ _ _ _ _, HR6.out.far9 (by omega) _ _ _ _ _ _ _ _ _, ?_⟩
            repeat (refine bS ?_ (by simp <;> omega))
            exact HB6.out
          case measure => simp [intOf]; omega
    · obtain rfl : k = fs.length := by omega
      have HO : Hid (prgO m s p fs r = some mk) := by show _ = _; rw [prgO_yes h1 hi1 hi2]; exact hput.out
      have HA : Hid ((prgO m s p fs r).isSome = true) := by show _ = _; rw [HO.out]; rfl
      have HV : Hid (prgV m s p fs r = mk) := by show _ = _; unfold prgV; rw [HO.out]; rfl
      obtain ⟨C1, n1, rfl, _⟩ := HMK.out.t.b
      obtain ⟨C2, n2, rfl, _⟩ := HMK.out.t.f
      obtain ⟨C3, n3, rfl, _⟩ := HMK.out.l
      obtain ⟨C4, n4, rfl, _⟩ := HMK.out.o
      obtain ⟨p0z, p1z, p2z, p3z, p4z, p5z, p6z, p7z, p8z⟩ := cells9 HOB.out
      obtain ⟨r0x, r1x, r2x, r3x, r4x, r5x, r6x, r7x, r8x⟩ := cells9 HRB.out
      obtain ⟨z0x, z1x, z2x, z3x, z4x, z5x, z6x, z7x, z8x⟩ := free9 HRB.out
      have hgl := HOB.out.lt
      have hrl := HRB.out.lt
      go_wp2
      have o3 := HRB.out.set9 (.slice C1 mk.t.bs.length n1) (.slice C2 mk.t.fs.length n2) (.slice C3 mk.c.ls.length n3) (.int .i64 mk.c.hand) (.int .i64 mk.g.count) (.int .i64 mk.g.next) (.int .i64 mk.g.round) (.slice C4 mk.g.os.length n4) (.int .i64 mk.sp)
      obtain ⟨p0t, p1t, p2t, p3t, p4t, p5t, p6t, p7t, p8t⟩ := cells9 o3
      refine bodyPost_ret (v := .tuple #[.agg #[(.slice C1 mk.t.bs.length n1), (.slice C2 mk.t.fs.length n2), (.slice C3 mk.c.ls.length n3), .int .i64 mk.c.hand, .int .i64 mk.g.count, .int .i64 mk.g.next, .int .i64 mk.g.round, (.slice C4 mk.g.os.length n4), .int .i64 mk.sp], .bool true]) (by simp [results, Tryz.results34, go_sem, p0t, p1t, p2t, p3t, p4t, p5t, p6t, p7t, p8t]) rfl ⟨_, rfl, _, _, _, _, by rw [HA.out, HV.out], ?_, ?_⟩
      · rw [HV.out]
        exact (HMK.out.far9 HRB.out _ _ _ _ _ _ _ _ _).mono (by omega)
      · repeat (refine bS ?_ (by simp <;> omega))
        exact HBW.out
end Go.Proofs.YtibpnlojlfcpmaaGreatDoor
