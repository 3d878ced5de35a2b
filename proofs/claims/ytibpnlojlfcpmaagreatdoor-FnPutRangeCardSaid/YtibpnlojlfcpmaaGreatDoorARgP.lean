/- A part of the proofs of this seat: Gn, Gr1, PrT, RgG, RgP, TkI. -/
import Derived.Test.YtibpnlojlfcpmaaGreatDoorADprv1
import Derived.Test.YtibpnlojlfcpmaaGreatDoorAPlr
set_option linter.unusedVariables false
set_option linter.unusedSimpArgs false
set_option maxRecDepth 1000000
namespace Go.Proofs.YtibpnlojlfcpmaaGreatDoor
open Go.RowKit
def rgN (O : Ma → Nat → Bool) (V : Ma → Nat → Ma) (m : Ma) : Nat → Option Ma
 | 0 => some m
 | k + 1 => match rgN O V m k with
  | some m' => if O m' k = true then some (V m' k) else none
  | none => none
theorem rgN_step {O : Ma → Nat → Bool} {V : Ma → Nat → Ma} {m m' : Ma} {k : Nat} (h : rgN O V m k = some m') (hok : O m' k = true) : rgN O V m (k + 1) = some (V m' k) := by
 unfold rgN
 rw [h]
 simp only
 rw [if_pos hok]
theorem rgN_bad {O : Ma → Nat → Bool} {V : Ma → Nat → Ma} {m m' : Ma} {k : Nat} (h : rgN O V m k = some m') (hok : O m' k = false) : rgN O V m (k + 1) = none := by
 unfold rgN
 rw [h]
 simp only
 rw [if_neg (by rw [hok]; decide)]
theorem rgN_none {O : Ma → Nat → Bool} {V : Ma → Nat → Ma} {m : Ma} {k : Nat} (h : rgN O V m k = none) : ∀ {n : Nat}, k ≤ n → rgN O V m n = none := by
 intro n hn
 induction n with
 | zero => rw [show (0 : Nat) = k by omega]; exact h
 | succ n ih =>
  rcases Nat.lt_or_ge n k with hlt | hge
  ·rw [show n + 1 = k by omega]; exact h
  ·unfold rgN
   rw [ih hge]
def rgO (O : Ma → Nat → Bool) (V : Ma → Nat → Ma) (m : Ma) (c : Int) : Option Ma := if mav m = true ∧ 1 ≤ c ∧ c ≤ 16 then rgN O V m c.toNat else none
theorem rgO_no {O : Ma → Nat → Bool} {V : Ma → Nat → Ma} {m : Ma} {c : Int} (h : ¬ (mav m = true ∧ 1 ≤ c ∧ c ≤ 16)) : rgO O V m c = none := if_neg h
theorem rgO_yes {O : Ma → Nat → Bool} {V : Ma → Nat → Ma} {m : Ma} {c : Nat} (h : mav m = true) (h1 : 1 ≤ c) (h2 : c ≤ 16) : rgO O V m c = rgN O V m c := by
 unfold rgO
 rw [if_pos ⟨h, by omega, by omega⟩, Int.toNat_natCast]
def rgV (O : Ma → Nat → Bool) (V : Ma → Nat → Ma) (m : Ma) (c : Int) : Ma := (rgO O V m c).getD maz
set_option maxHeartbeats 4000000 in
theorem takeRanged_any (vb vf vl vo : Value) (m : Ma) (s p c : Int)  (O : Ma → Nat → Bool) (V : Ma → Nat → Ma) (w : World) (hM : MaR w vb vf vl vo m) (hfree : Free w)
    (hkv : ∀ m', O m' 0 = true → kval (s, p) = true)
    (hC : ∀ (c1 c2 c3 c4 : Value) (mk : Ma) (k : Nat) (W : World), k < 16 → Below w.heap.size w W → MaR W c1 c2 c3 c4 mk →
      Calls Tryz.prog 101 #[.agg #[c1, c2, c3, .int .i64 mk.c.hand, .int .i64 mk.g.count, .int .i64 mk.g.next, .int .i64 mk.g.round, c4, .int .i64 mk.sp], .int .i64 k, .agg #[.int .i64 s, .int .i64 (p + k)]] W (Post2 fun v w' => ∃ v1 v2 v3 v4, v = .tuple #[.agg #[v1, v2, v3, .int .i64 (V mk k).c.hand, .int .i64 (V mk k).g.count, .int .i64 (V mk k).g.next, .int .i64 (V mk k).g.round, v4, .int .i64 (V mk k).sp], .bool (O mk k)] ∧ MaM W.heap.size w' v1 v2 v3 v4 (V mk k) ∧ Below W.heap.size W w')) :
    Calls Tryz.prog 97 #[.agg #[vb, vf, vl, .int .i64 m.c.hand, .int .i64 m.g.count, .int .i64 m.g.next, .int .i64 m.g.round, vo, .int .i64 m.sp], .agg #[.int .i64 s, .int .i64 p], .int .i64 c, .func (.func 101) #[] #[]] w (Post2 fun v w' => ∃ v1 v2 v3 v4, v = .tuple #[.agg #[v1, v2, v3, .int .i64 (rgV O V m c).c.hand, .int .i64 (rgV O V m c).g.count, .int .i64 (rgV O V m c).g.next, .int .i64 (rgV O V m c).g.round, v4, .int .i64 (rgV O V m c).sp], .bool ((rgO O V m c).isSome)] ∧ MaM w.heap.size w' v1 v2 v3 v4 (rgV O V m c) ∧ Below w.heap.size w w') := by
  obtain ⟨W0, hW, hbx, hbk, hbo, hb0, hs0⟩ := box3 w #[vb, vf, vl, .int .i64 m.c.hand, .int .i64 m.g.count, .int .i64 m.g.next, .int .i64 m.g.round, vo, .int .i64 m.sp] 48 #[.int .i64 s, .int .i64 p] 61 #[.slice none 0 0, .slice none 0 0, .slice none 0 0, .int .i64 0, .int .i64 0, .int .i64 0, .int .i64 0, .slice none 0 0, .int .i64 0] 48
  have HX0 := Hd hbx
  have HK0 := Hd hbk
  have HR0 := Hd hbo
  have HB0 := Hd hb0
  have HS0 : Hid (w.heap.size + 3 ≤ W0.heap.size) := Nat.le_of_eq hs0.symm
  clear hbx hbk hbo hb0
  have HM := Hd hM
  have HF := Hd hfree
  clear hM hfree
  obtain ⟨m00, m10, m20, m30, m40, m50, m60, m70, m80⟩ := cells9 HX0.out
  go_enter Tryz.func97, Tryz.ntmps97
  go_wp2_with fail
  refine (MachineValid_any vb vf vl vo m _ (HM.out.now HB0.out) (HF.out.now HB0.out)).mono ?_
  rintro e w1 ⟨rfl, hb1⟩
  have HX1 := Hd (HX0.out.below hb1)
  have HK1 := Hd (HK0.out.below hb1)
  have HR1 := Hd (HR0.out.below hb1)
  have HB1 := Hd (bT HB0.out hb1)
  have HS1 := Hd (Nat.le_trans HS0.out hb1.size)
  clear hb1
  clear m00 m10 m20 m30 m40 m50 m60 m70 m80
  cases h1 : mav m with
  | false =>
    have HO : Hid (rgO O V m c = none) := rgO_no (fun h => by rw [h1] at h; cases h.1)
    have HA : Hid ((rgO O V m c).isSome = false) := by show _ = _; rw [HO.out]; rfl
    have HV : Hid (rgV O V m c = maz) := by show _ = _; unfold rgV; rw [HO.out]; rfl
    obtain ⟨r0x, r1x, r2x, r3x, r4x, r5x, r6x, r7x, r8x⟩ := cells9 HR1.out
    obtain ⟨z0x, z1x, z2x, z3x, z4x, z5x, z6x, z7x, z8x⟩ := free9 HR1.out
    go_wp2
    obtain ⟨t0, t1, t2, t3, t4, t5, t6, t7, t8⟩ := cells9 (set9z HR1.out)
    refine bodyPost_ret (v := .tuple #[.agg #[.slice none 0 0, .slice none 0 0, .slice none 0 0, .int .i64 0, .int .i64 0, .int .i64 0, .int .i64 0, .slice none 0 0, .int .i64 0], .bool false]) (by simp [results, Tryz.results97, go_sem, t0, t1, t2, t3, t4, t5, t6, t7, t8]) rfl ⟨_, rfl, _, _, _, _, by rw [HA.out, HV.out]; rfl, by rw [HV.out]; exact mam_z, ?_⟩
    repeat (refine bS ?_ (by simp <;> omega))
    exact HB1.out
  | true =>
  have k01 := HK1.out.cell_ 0 (v := .int .i64 s) rfl
  have k11 := HK1.out.cell_ 1 (v := .int .i64 p) rfl
  go_wp2_with fail
  refine (keyValid_any s p _).mono ?_
  rintro e w2 ⟨rfl, hb2⟩
  have HX2 := Hd (HX1.out.below hb2)
  have HK2 := Hd (HK1.out.below hb2)
  have HR2 := Hd (HR1.out.below hb2)
  have HB2 := Hd (bT HB1.out hb2)
  have HS2 := Hd (Nat.le_trans HS1.out hb2.size)
  clear hb2
  clear k01 k11
  cases h2k : kval (s, p) with
  | false =>
    have HO : Hid (rgO O V m c = none) := by
      show _ = _
      by_cases h : mav m = true ∧ 1 ≤ c ∧ c ≤ 16
      · have h0 : rgN O V m 1 = none := rgN_bad (rfl : rgN O V m 0 = some m) (bool_ff fun hh => by rw [hkv _ hh] at h2k; cases h2k)
        unfold rgO
        rw [if_pos h]
        exact rgN_none h0 (by omega)
      · exact rgO_no h
    have HA : Hid ((rgO O V m c).isSome = false) := by show _ = _; rw [HO.out]; rfl
    have HV : Hid (rgV O V m c = maz) := by show _ = _; unfold rgV; rw [HO.out]; rfl
    obtain ⟨r0x, r1x, r2x, r3x, r4x, r5x, r6x, r7x, r8x⟩ := cells9 HR2.out
    obtain ⟨z0x, z1x, z2x, z3x, z4x, z5x, z6x, z7x, z8x⟩ := free9 HR2.out
    go_wp2
    obtain ⟨t0, t1, t2, t3, t4, t5, t6, t7, t8⟩ := cells9 (set9z HR2.out)
    refine bodyPost_ret (v := .tuple #[.agg #[.slice none 0 0, .slice none 0 0, .slice none 0 0, .int .i64 0, .int .i64 0, .int .i64 0, .int .i64 0, .slice none 0 0, .int .i64 0], .bool false]) (by simp [results, Tryz.results97, go_sem, t0, t1, t2, t3, t4, t5, t6, t7, t8]) rfl ⟨_, rfl, _, _, _, _, by rw [HA.out, HV.out]; rfl, by rw [HV.out]; exact mam_z, ?_⟩
    repeat (refine bS ?_ (by simp <;> omega))
    exact HB2.out
  | true =>
  by_cases h2 : c < 1
  · have HO : Hid (rgO O V m c = none) := rgO_no (fun h => by omega)
    have HA : Hid ((rgO O V m c).isSome = false) := by show _ = _; rw [HO.out]; rfl
    have HV : Hid (rgV O V m c = maz) := by show _ = _; unfold rgV; rw [HO.out]; rfl
    obtain ⟨r0x, r1x, r2x, r3x, r4x, r5x, r6x, r7x, r8x⟩ := cells9 HR2.out
    obtain ⟨z0x, z1x, z2x, z3x, z4x, z5x, z6x, z7x, z8x⟩ := free9 HR2.out
    go_wp2
    obtain ⟨t0, t1, t2, t3, t4, t5, t6, t7, t8⟩ := cells9 (set9z HR2.out)
    refine bodyPost_ret (v := .tuple #[.agg #[.slice none 0 0, .slice none 0 0, .slice none 0 0, .int .i64 0, .int .i64 0, .int .i64 0, .int .i64 0, .slice none 0 0, .int .i64 0], .bool false]) (by simp [results, Tryz.results97, go_sem, t0, t1, t2, t3, t4, t5, t6, t7, t8]) rfl ⟨_, rfl, _, _, _, _, by rw [HA.out, HV.out]; rfl, by rw [HV.out]; exact mam_z, ?_⟩
    repeat (refine bS ?_ (by simp <;> omega))
    exact HB2.out
  by_cases h3 : 16 < c
  · have HO : Hid (rgO O V m c = none) := rgO_no (fun h => by omega)
    have HA : Hid ((rgO O V m c).isSome = false) := by show _ = _; rw [HO.out]; rfl
    have HV : Hid (rgV O V m c = maz) := by show _ = _; unfold rgV; rw [HO.out]; rfl
    obtain ⟨r0x, r1x, r2x, r3x, r4x, r5x, r6x, r7x, r8x⟩ := cells9 HR2.out
    obtain ⟨z0x, z1x, z2x, z3x, z4x, z5x, z6x, z7x, z8x⟩ := free9 HR2.out
    go_wp2
    obtain ⟨t0, t1, t2, t3, t4, t5, t6, t7, t8⟩ := cells9 (set9z HR2.out)
    refine bodyPost_ret (v := .tuple #[.agg #[.slice none 0 0, .slice none 0 0, .slice none 0 0, .int .i64 0, .int .i64 0, .int .i64 0, .int .i64 0, .slice none 0 0, .int .i64 0], .bool false]) (by simp [results, Tryz.results97, go_sem, t0, t1, t2, t3, t4, t5, t6, t7, t8]) rfl ⟨_, rfl, _, _, _, _, by rw [HA.out, HV.out]; rfl, by rw [HV.out]; exact mam_z, ?_⟩
    repeat (refine bS ?_ (by simp <;> omega))
    exact HB2.out
  obtain ⟨n, rfl⟩ := Int.eq_ofNat_of_zero_le (show 0 ≤ c by omega)
  have hi1 : 1 ≤ n := by omega
  have hi2 : n ≤ 16 := by omega
  obtain ⟨B1, d1, rfl, _⟩ := HM.out.t.b
  obtain ⟨B2, d2, rfl, _⟩ := HM.out.t.f
  obtain ⟨B3, d3, rfl, _⟩ := HM.out.l
  obtain ⟨B4, d4, rfl, _⟩ := HM.out.o
  obtain ⟨p0m, p1m, p2m, p3m, p4m, p5m, p6m, p7m, p8m⟩ := cells9 HX2.out
  have hkv' := kval_iff.1 h2k
  have HO2 := Hd (Own.new_ w2 48 #[.slice B1 m.t.bs.length d1, .slice B2 m.t.fs.length d2, .slice B3 m.c.ls.length d3, .int .i64 m.c.hand, .int .i64 m.g.count, .int .i64 m.g.next, .int .i64 m.g.round, .slice B4 m.g.os.length d4, .int .i64 m.sp])
  have HK3 := Hd (HK2.out.alloc (o := .cells #[.slice B1 m.t.bs.length d1, .slice B2 m.t.fs.length d2, .slice B3 m.c.ls.length d3, .int .i64 m.c.hand, .int .i64 m.g.count, .int .i64 m.g.next, .int .i64 m.g.round, .slice B4 m.g.os.length d4, .int .i64 m.sp] 48))
  have HR3 := Hd (HR2.out.alloc (o := .cells #[.slice B1 m.t.bs.length d1, .slice B2 m.t.fs.length d2, .slice B3 m.c.ls.length d3, .int .i64 m.c.hand, .int .i64 m.g.count, .int .i64 m.g.next, .int .i64 m.g.round, .slice B4 m.g.os.length d4, .int .i64 m.sp] 48))
  have HM3 := Hd (HM.out.now (bA HB2.out (o := .cells #[.slice B1 m.t.bs.length d1, .slice B2 m.t.fs.length d2, .slice B3 m.c.ls.length d3, .int .i64 m.c.hand, .int .i64 m.g.count, .int .i64 m.g.next, .int .i64 m.g.round, .slice B4 m.g.os.length d4, .int .i64 m.sp] 48)))
  have HB3 := Hd (bA HB2.out (o := .cells #[.slice B1 m.t.bs.length d1, .slice B2 m.t.fs.length d2, .slice B3 m.c.ls.length d3, .int .i64 m.c.hand, .int .i64 m.g.count, .int .i64 m.g.next, .int .i64 m.g.round, .slice B4 m.g.os.length d4, .int .i64 m.sp] 48))
  have hgb := HR2.out.lt
  have hs2 := HS2.out
  go_wp2
  clear p0m p1m p2m p3m p4m p5m p6m p7m p8m
  go_loopw [33] (fun u wr => ∃ (k : Nat) (mk : Ma) (c1 c2 c3 c4 : Value), k ≤ n ∧ u = .int .i64 k ∧ Hid (rgN O V m k = some mk) ∧ Own wr w2.heap.size 48 #[c1, c2, c3, .int .i64 mk.c.hand, .int .i64 mk.g.count, .int .i64 mk.g.next, .int .i64 mk.g.round, c4, .int .i64 mk.sp] ∧ MaR wr c1 c2 c3 c4 mk ∧ Hid (0 < k → MaM (w.heap.size + 3) wr c1 c2 c3 c4 mk) ∧ Own wr (w.heap.size + 1) 61 #[.int .i64 s, .int .i64 p] ∧ Own wr (w.heap.size + 1 + 1) 48 #[.slice none 0 0, .slice none 0 0, .slice none 0 0, .int .i64 0, .int .i64 0, .int .i64 0, .int .i64 0, .slice none 0 0, .int .i64 0] ∧ Below w.heap.size w wr) (fun u _ => n - (intOf u).toNat)
  case atStart => exact ⟨0, m, _, _, _, _, by omega, rfl, rfl, HO2.out, HM3.out, (fun h => absurd h (by omega)), HK3.out, HR3.out, HB3.out⟩
  case round =>
    obtain ⟨k, mk, c1, c2, c3, c4, hk, rfl, hput, hob, hmk, hmm, hkb, hrb, hbw⟩ := hrel
    have HOB := Hd hob
    have HMK := Hd hmk
    have HKB := Hd hkb
    have HRB := Hd hrb
    have HBW := Hd hbw
    clear hob hmk hkb hrb hbw
    by_cases hlt : k < n
    · have hwk : IntKind.i64.wrap (p + (k : Int)) = p + k := IntWalk.i64_in _ (by omega)
      have HC := Hd (hC c1 c2 c3 c4 mk k wr (by omega) HBW.out HMK.out)
      obtain ⟨p0y, p1y, p2y, p3y, p4y, p5y, p6y, p7y, p8y⟩ := cells9 HOB.out
      have q0 := HKB.out.cell_ 0 (v := .int .i64 s) rfl
      have q1 := HKB.out.cell_ 1 (v := .int .i64 p) rfl
      go_wp2_with fail
      refine HC.out.mono ?_
      rintro e w5 ⟨_, rfl, e1, e2, e3, e4, rfl, hM5, hb5⟩
      have hsw : w.heap.size + 3 ≤ wr.heap.size := Nat.le_trans hs2 (Nat.le_of_lt HOB.out.lt)
      have HM5 := Hd (hM5.mono hsw)
      obtain ⟨E1, n1, rfl, _⟩ := HM5.out.t.b
      obtain ⟨E2, n2, rfl, _⟩ := HM5.out.t.f
      obtain ⟨E3, n3, rfl, _⟩ := HM5.out.l
      obtain ⟨E4, n4, rfl, _⟩ := HM5.out.o
      have HOB5 := HOB.out.below hb5
      have hgl5 := HOB5.lt
      have hO6 := HOB5.alloc (o := .cells #[.slice E1 (V mk k).t.bs.length n1, .slice E2 (V mk k).t.fs.length n2, .slice E3 (V mk k).c.ls.length n3, .int .i64 (V mk k).c.hand, .int .i64 (V mk k).g.count, .int .i64 (V mk k).g.next, .int .i64 (V mk k).g.round, .slice E4 (V mk k).g.os.length n4, .int .i64 (V mk k).sp] 48)
      have hK6 := (HKB.out.below hb5).alloc (o := .cells #[.slice E1 (V mk k).t.bs.length n1, .slice E2 (V mk k).t.fs.length n2, .slice E3 (V mk k).c.ls.length n3, .int .i64 (V mk k).c.hand, .int .i64 (V mk k).g.count, .int .i64 (V mk k).g.next, .int .i64 (V mk k).g.round, .slice E4 (V mk k).g.os.length n4, .int .i64 (V mk k).sp] 48)
      have hR6 := (HRB.out.below hb5).alloc (o := .cells #[.slice E1 (V mk k).t.bs.length n1, .slice E2 (V mk k).t.fs.length n2, .slice E3 (V mk k).c.ls.length n3, .int .i64 (V mk k).c.hand, .int .i64 (V mk k).g.count, .int .i64 (V mk k).g.next, .int .i64 (V mk k).g.round, .slice E4 (V mk k).g.os.length n4, .int .i64 (V mk k).sp] 48)
      have hN6 := Own.new_ w5 48 #[.slice E1 (V mk k).t.bs.length n1, .slice E2 (V mk k).t.fs.length n2, .slice E3 (V mk k).c.ls.length n3, .int .i64 (V mk k).c.hand, .int .i64 (V mk k).g.count, .int .i64 (V mk k).g.next, .int .i64 (V mk k).g.round, .slice E4 (V mk k).g.os.length n4, .int .i64 (V mk k).sp]
      have hM6 := HM5.out.now (bA (bR (w := w5)) (o := .cells #[.slice E1 (V mk k).t.bs.length n1, .slice E2 (V mk k).t.fs.length n2, .slice E3 (V mk k).c.ls.length n3, .int .i64 (V mk k).c.hand, .int .i64 (V mk k).g.count, .int .i64 (V mk k).g.next, .int .i64 (V mk k).g.round, .slice E4 (V mk k).g.os.length n4, .int .i64 (V mk k).sp] 48))
      have hB6 := bA (bT HBW.out hb5) (o := .cells #[.slice E1 (V mk k).t.bs.length n1, .slice E2 (V mk k).t.fs.length n2, .slice E3 (V mk k).c.ls.length n3, .int .i64 (V mk k).c.hand, .int .i64 (V mk k).g.count, .int .i64 (V mk k).g.next, .int .i64 (V mk k).g.round, .slice E4 (V mk k).g.os.length n4, .int .i64 (V mk k).sp] 48)
      clear p0y p1y p2y p3y p4y p5y p6y p7y p8y q0 q1 hM5 hb5 HOB5
      have hne1 : w2.heap.size ≠ w5.heap.size := by omega
      generalize hW6 : w5.alloc (.cells #[.slice E1 (V mk k).t.bs.length n1, .slice E2 (V mk k).t.fs.length n2, .slice E3 (V mk k).c.ls.length n3, .int .i64 (V mk k).c.hand, .int .i64 (V mk k).g.count, .int .i64 (V mk k).g.next, .int .i64 (V mk k).g.round, .slice E4 (V mk k).g.os.length n4, .int .i64 (V mk k).sp] 48) = w6 at *
      have HO6 := Hd hO6
      have HK6 := Hd hK6
      have HR6 := Hd hR6
      have HN6 := Hd hN6
      have HM6 := Hd hM6
      have HB6 := Hd hB6
      clear hO6 hK6 hR6 hN6 hM6 hB6
      have hl6 := HO6.out.lt
      have hl7 := HR6.out.lt
      have hl8 := HN6.out.lt
      cases hok : O mk k with
      | false =>
        have HO : Hid (rgO O V m n = none) := by show _ = _; rw [rgO_yes h1 hi1 hi2]; exact rgN_none (rgN_bad hput.out hok) (by omega)
        have HA : Hid ((rgO O V m n).isSome = false) := by show _ = _; rw [HO.out]; rfl
        have HV : Hid (rgV O V m n = maz) := by show _ = _; unfold rgV; rw [HO.out]; rfl
        obtain ⟨r0x, r1x, r2x, r3x, r4x, r5x, r6x, r7x, r8x⟩ := cells9 HR6.out
        obtain ⟨z0x, z1x, z2x, z3x, z4x, z5x, z6x, z7x, z8x⟩ := free9 HR6.out
        go_wp2
        obtain ⟨t0, t1, t2, t3, t4, t5, t6, t7, t8⟩ := cells9 (set9z HR6.out)
        refine bodyPost_ret (v := .tuple #[.agg #[.slice none 0 0, .slice none 0 0, .slice none 0 0, .int .i64 0, .int .i64 0, .int .i64 0, .int .i64 0, .slice none 0 0, .int .i64 0], .bool false]) (by simp [results, Tryz.results97, go_sem, t0, t1, t2, t3, t4, t5, t6, t7, t8]) rfl ⟨_, rfl, _, _, _, _, by rw [HA.out, HV.out]; rfl, by rw [HV.out]; exact mam_z, ?_⟩
        repeat (refine bS ?_ (by simp <;> omega))
        exact HB6.out
      | true =>
        have HPUT := Hd (rgN_step hput.out hok)
        obtain ⟨p0z, p1z, p2z, p3z, p4z, p5z, p6z, p7z, p8z⟩ := cells9 HO6.out
        obtain ⟨w0z, w1z, w2z, w3z, w4z, w5z, w6z, w7z, w8z⟩ := free9 HO6.out
        obtain ⟨p0n, p1n, p2n, p3n, p4n, p5n, p6n, p7n, p8n⟩ := cells9 HN6.out
        go_wp2
        go_roundw
        case rel =>
          refine ⟨k + 1, V mk k, _, _, _, _, by omega, by go_num, HPUT, HO6.out.set9 _ _ _ _ _ _ _ _ _, (HM6.out.far9 HO6.out _ _ _ _ _ _ _ _ _).r, (fun _ => HM6.out.far9 HO6.out _ _ _ _ _ _ _ _ _), HK6.out.far9 (by omega) _ _ _ _ _ _ _ _ _, HR6.out.far9 (by omega) _ _ _ _ _ _ _ _ _, ?_⟩
          repeat (refine bS ?_ (by simp <;> omega))
          exact HB6.out
        case measure => simp [intOf]; omega
    · obtain rfl : k = n := by omega
      have HO : Hid (rgO O V m k = some mk) := by show _ = _; rw [rgO_yes h1 hi1 hi2]; exact hput.out
      have HA : Hid ((rgO O V m k).isSome = true) := by show _ = _; rw [HO.out]; rfl
      have HV : Hid (rgV O V m k = mk) := by show _ = _; unfold rgV; rw [HO.out]; rfl
      have HMM := Hd (hmm.out (by omega))
      obtain ⟨C1, n1, rfl, _⟩ := HMM.out.t.b
      obtain ⟨C2, n2, rfl, _⟩ := HMM.out.t.f
      obtain ⟨C3, n3, rfl, _⟩ := HMM.out.l
      obtain ⟨C4, n4, rfl, _⟩ := HMM.out.o
      obtain ⟨p0z, p1z, p2z, p3z, p4z, p5z, p6z, p7z, p8z⟩ := cells9 HOB.out
      obtain ⟨r0x, r1x, r2x, r3x, r4x, r5x, r6x, r7x, r8x⟩ := cells9 HRB.out
      obtain ⟨z0x, z1x, z2x, z3x, z4x, z5x, z6x, z7x, z8x⟩ := free9 HRB.out
      have hgl := HOB.out.lt
      have hrl := HRB.out.lt
      go_wp2
      have o3 := HRB.out.set9 (.slice C1 mk.t.bs.length n1) (.slice C2 mk.t.fs.length n2) (.slice C3 mk.c.ls.length n3) (.int .i64 mk.c.hand) (.int .i64 mk.g.count) (.int .i64 mk.g.next) (.int .i64 mk.g.round) (.slice C4 mk.g.os.length n4) (.int .i64 mk.sp)
      obtain ⟨p0t, p1t, p2t, p3t, p4t, p5t, p6t, p7t, p8t⟩ := cells9 o3
      refine bodyPost_ret (v := .tuple #[.agg #[.slice C1 mk.t.bs.length n1, .slice C2 mk.t.fs.length n2, .slice C3 mk.c.ls.length n3, .int .i64 mk.c.hand, .int .i64 mk.g.count, .int .i64 mk.g.next, .int .i64 mk.g.round, .slice C4 mk.g.os.length n4, .int .i64 mk.sp], .bool true]) (by simp [results, Tryz.results97, go_sem, p0t, p1t, p2t, p3t, p4t, p5t, p6t, p7t, p8t]) rfl ⟨_, rfl, _, _, _, _, by rw [HA.out, HV.out], ?_, ?_⟩
      · rw [HV.out]
        exact (HMM.out.far9 HRB.out _ _ _ _ _ _ _ _ _).mono (by omega)
      · repeat (refine bS ?_ (by simp <;> omega))
        exact HBW.out
theorem fOK_kval {t : Tab} {s p : Int} (h : fOK t s p = true) : kval (s, p) = true := by
 unfold fOK at h
 simp only [Bool.and_eq_true] at h
 exact h.1.2
theorem takO_kval {m : Ma} {s p : Int} (h : takO m s (p + (0 : Nat)) = true) : kval (s, p) = true := by
 unfold takO at h
 simp only [Bool.and_eq_true] at h
 have := fOK_kval h.2
 simpa using this
theorem chg_int : ¬ chg 3 := by unfold chg; decide
theorem drpC_cg {y m : Ma} (hc : y.c = m.c) (hg : y.g = m.g) (s q : Int) : drpC y s q = drpC m s q := by
 unfold drpC tagO tagT
 rw [hc, hg]
structure TakS (s p : Int) (m : Ma) (k : Nat) (x : Ma) : Prop where
 v : mav x = true
 g : x.g = m.g
 n : x.t.fs.countP (·.used) + k = m.t.fs.countP (·.used)
 f : ∀ i : Nat, i < k → fnd x.t.fs s (p + i) = none
 c : (∀ i : Nat, i < k → drpC m s (p + i) = m.c) → x.c = m.c
theorem tak_state {s p : Int} {m : Ma} (hm : mav m = true) : ∀ (n : Nat) (x : Ma), rgN (fun m k => takO m s (p + k)) (fun m k => takV m s (p + k)) m n = some x → TakS s p m n x
  | 0, x, h => by
    injection h with h
    subst h
    exact ⟨hm, rfl, rfl, fun i h => absurd h (by omega), fun _ => rfl⟩
  | n + 1, x, h => by
    unfold rgN at h
    cases e : rgN (fun m k => takO m s (p + k)) (fun m k => takV m s (p + k)) m n with
    | none => rw [e] at h; cases h
    | some y =>
      rw [e] at h
      have P := tak_state hm n y e
      simp only at h
      split at h
      · rename_i hok
        injection h with h
        subst h
        obtain ⟨h1, h2⟩ := takO_iff.1 hok
        obtain ⟨c1, c2, _⟩ := takV_c hok
        refine ⟨mav_tak hok, c2.trans P.g, ?_, fun i hi => ?_, fun hc => ?_⟩
        · rw [takV_t hok]
          have := unm_count h2
          have := P.n
          omega
        · rw [takV_t hok]
          rcases Nat.lt_or_ge i n with hlt | hge
          · rw [unm_fnd h2 (by intro h'; injection h' with _ h'; omega)]
            exact P.f i hlt
          · obtain rfl : i = n := by omega
            exact unm_gone (mav_parts h1).1 h2
        · have hc' := P.c (fun i hi => hc i (by omega))
          rw [c1, drpC_cg hc' P.g, hc n (by omega)]
      · cases h
set_option maxHeartbeats 2000000 in
theorem TakeRange1_any (vb vf vl vo : Value) (m : Ma) (i s p : Int) (w : World) (hM : MaR w vb vf vl vo m) (hfree : Free w) :
  Calls Tryz.prog 101 #[.agg #[vb, vf, vl, .int .i64 m.c.hand, .int .i64 m.g.count, .int .i64 m.g.next, .int .i64 m.g.round, vo, .int .i64 m.sp], .int .i64 i, .agg #[.int .i64 s, .int .i64 p]] w (Post2 fun v w' => ∃ v1 v2 v3 v4, v = .tuple #[.agg #[v1, v2, v3, .int .i64 (takV m s p).c.hand, .int .i64 (takV m s p).g.count, .int .i64 (takV m s p).g.next, .int .i64 (takV m s p).g.round, v4, .int .i64 (takV m s p).sp], .bool (takO m s p)] ∧ MaM w.heap.size w' v1 v2 v3 v4 (takV m s p) ∧ Below w.heap.size w w') := by
 obtain ⟨W0, hW, hbx, hbk, hbo, hb0, hs0⟩ := box3 w #[vb, vf, vl, .int .i64 m.c.hand, .int .i64 m.g.count, .int .i64 m.g.next, .int .i64 m.g.round, vo, .int .i64 m.sp] 48 #[.int .i64 s, .int .i64 p] 61 #[.slice none 0 0, .slice none 0 0, .slice none 0 0, .int .i64 0, .int .i64 0, .int .i64 0, .int .i64 0, .slice none 0 0, .int .i64 0] 48
 have HX0 := Hd hbx
 have HK0 := Hd hbk
 have HR0 := Hd hbo
 have HB0 := Hd hb0
 have HS0 : Hid (w.heap.size + 3 ≤ W0.heap.size) := Nat.le_of_eq hs0.symm
 clear hbx hbk hbo hb0
 have HM := Hd hM
 have HF := Hd hfree
 obtain ⟨m00, m10, m20, m30, m40, m50, m60, m70, m80⟩ := cells9 HX0.out
 have k00 := HK0.out.cell_ 0 (v := .int .i64 s) rfl
 have k10 := HK0.out.cell_ 1 (v := .int .i64 p) rfl
 have HMV := Hd (fun W (h : MaR W vb vf vl vo m) (hf : Free W) => TakePage_any vb vf vl vo m s p W h hf)
 clear hM hfree
 go_enter Tryz.func101, Tryz.ntmps101
 go_wp2_with fail
 refine (HMV.out _ (HM.out.now HB0.out) (HF.out.now HB0.out)).mono ?_
 rintro e w1 ⟨_, rfl, e1, e2, e3, e4, rfl, hM1, hb1⟩
 have HX1 := Hd (HX0.out.below hb1)
 have HK1 := Hd (HK0.out.below hb1)
 have HR1 := Hd (HR0.out.below hb1)
 have HB1 := Hd (bT HB0.out hb1)
 have HS1 := Hd (Nat.le_trans HS0.out hb1.size)
 clear hb1
 have HM1 := Hd (hM1.mono (B' := w.heap.size + 3) (Nat.le_of_eq hs0.symm))
 obtain ⟨r0x, r1x, r2x, r3x, r4x, r5x, r6x, r7x, r8x⟩ := cells9 HR1.out
 obtain ⟨z0x, z1x, z2x, z3x, z4x, z5x, z6x, z7x, z8x⟩ := free9 HR1.out
 obtain ⟨E1, n1, rfl, _⟩ := HM1.out.t.b
 obtain ⟨E2, n2, rfl, _⟩ := HM1.out.t.f
 obtain ⟨E3, n3, rfl, _⟩ := HM1.out.l
 obtain ⟨E4, n4, rfl, _⟩ := HM1.out.o
 clear hM1 m00 m10 m20 m30 m40 m50 m60 m70 m80 k00 k10
 go_wp2
 have o3 := HR1.out.set9 (.slice E1 (takV m s p).t.bs.length n1) (.slice E2 (takV m s p).t.fs.length n2) (.slice E3 (takV m s p).c.ls.length n3) (.int .i64 (takV m s p).c.hand) (.int .i64 (takV m s p).g.count) (.int .i64 (takV m s p).g.next) (.int .i64 (takV m s p).g.round) (.slice E4 (takV m s p).g.os.length n4) (.int .i64 (takV m s p).sp)
 obtain ⟨p0t, p1t, p2t, p3t, p4t, p5t, p6t, p7t, p8t⟩ := cells9 o3
 refine bodyPost_ret (v := .tuple #[.agg #[.slice E1 (takV m s p).t.bs.length n1, .slice E2 (takV m s p).t.fs.length n2, .slice E3 (takV m s p).c.ls.length n3, .int .i64 (takV m s p).c.hand, .int .i64 (takV m s p).g.count, .int .i64 (takV m s p).g.next, .int .i64 (takV m s p).g.round, .slice E4 (takV m s p).g.os.length n4, .int .i64 (takV m s p).sp], .bool (takO m s p)]) (by simp [results, Tryz.results101, go_sem, p0t, p1t, p2t, p3t, p4t, p5t, p6t, p7t, p8t]) rfl ⟨_, rfl, _, _, _, _, by first | rfl | rw [hV, hO], ?_, ?_⟩
 ·first | exact (HM1.out.far9 HR1.out _ _ _ _ _ _ _ _ _).mono (by omega) | (rw [hV]; exact (HM1.out.far9 HR1.out _ _ _ _ _ _ _ _ _).mono (by omega))
 ·repeat (refine bS ?_ (by simp <;> omega))
  exact HB1.out
set_option maxHeartbeats 2000000 in
theorem TakeRange_any (vb vf vl vo : Value) (m : Ma) (s p c : Int) (w : World) (hM : MaR w vb vf vl vo m) (hfree : Free w) :
  Calls Tryz.prog 35 #[.agg #[vb, vf, vl, .int .i64 m.c.hand, .int .i64 m.g.count, .int .i64 m.g.next, .int .i64 m.g.round, vo, .int .i64 m.sp], .agg #[.int .i64 s, .int .i64 p], .int .i64 c] w (Post2 fun v w' => ∃ v1 v2 v3 v4, v = .tuple #[.agg #[v1, v2, v3, .int .i64 (rgV (fun m' k => takO m' s (p + k)) (fun m' k => takV m' s (p + k)) m c).c.hand, .int .i64 (rgV (fun m' k => takO m' s (p + k)) (fun m' k => takV m' s (p + k)) m c).g.count, .int .i64 (rgV (fun m' k => takO m' s (p + k)) (fun m' k => takV m' s (p + k)) m c).g.next, .int .i64 (rgV (fun m' k => takO m' s (p + k)) (fun m' k => takV m' s (p + k)) m c).g.round, v4, .int .i64 (rgV (fun m' k => takO m' s (p + k)) (fun m' k => takV m' s (p + k)) m c).sp], .bool ((rgO (fun m' k => takO m' s (p + k)) (fun m' k => takV m' s (p + k)) m c).isSome)] ∧ MaM w.heap.size w' v1 v2 v3 v4 (rgV (fun m' k => takO m' s (p + k)) (fun m' k => takV m' s (p + k)) m c) ∧ Below w.heap.size w w') := by
 obtain ⟨W0, hW, hbx, hbk, hbo, hb0, hs0⟩ := box3 w #[vb, vf, vl, .int .i64 m.c.hand, .int .i64 m.g.count, .int .i64 m.g.next, .int .i64 m.g.round, vo, .int .i64 m.sp] 48 #[.int .i64 s, .int .i64 p] 61 #[.slice none 0 0, .slice none 0 0, .slice none 0 0, .int .i64 0, .int .i64 0, .int .i64 0, .int .i64 0, .slice none 0 0, .int .i64 0] 48
 have HX0 := Hd hbx
 have HK0 := Hd hbk
 have HR0 := Hd hbo
 have HB0 := Hd hb0
 have HS0 : Hid (w.heap.size + 3 ≤ W0.heap.size) := Nat.le_of_eq hs0.symm
 clear hbx hbk hbo hb0
 have HC := Hd (takeRanged_any vb vf vl vo m s p c (fun m' k => takO m' s (p + k)) (fun m' k => takV m' s (p + k)) W0 (hM.now HB0.out) (hfree.now HB0.out) (fun m' h => takO_kval h) (fun c1 c2 c3 c4 mk k W hk hbw hmk => TakeRange1_any c1 c2 c3 c4 mk k s (p + k) W hmk (hfree.now (bT HB0.out hbw))))
 obtain ⟨m00, m10, m20, m30, m40, m50, m60, m70, m80⟩ := cells9 HX0.out
 have k00 := HK0.out.cell_ 0 (v := .int .i64 s) rfl
 have k10 := HK0.out.cell_ 1 (v := .int .i64 p) rfl
 clear hM hfree
 go_enter Tryz.func35, Tryz.ntmps35
 go_wp2_with fail
 refine HC.out.mono ?_
 rintro e w1 ⟨_, rfl, e1, e2, e3, e4, rfl, hM1, hb1⟩
 have HX1 := Hd (HX0.out.below hb1)
 have HK1 := Hd (HK0.out.below hb1)
 have HR1 := Hd (HR0.out.below hb1)
 have HB1 := Hd (bT HB0.out hb1)
 have HS1 := Hd (Nat.le_trans HS0.out hb1.size)
 clear hb1
 have HM1 := Hd (hM1.mono (B' := w.heap.size + 3) (Nat.le_of_eq hs0.symm))
 clear m00 m10 m20 m30 m40 m50 m60 m70 m80 k00 k10 HC
 obtain ⟨r0x, r1x, r2x, r3x, r4x, r5x, r6x, r7x, r8x⟩ := cells9 HR1.out
 obtain ⟨z0x, z1x, z2x, z3x, z4x, z5x, z6x, z7x, z8x⟩ := free9 HR1.out
 generalize hV : rgV (fun m' k => takO m' s (p + k)) (fun m' k => takV m' s (p + k)) m c = V at *
 generalize hO : (rgO (fun m' k => takO m' s (p + k)) (fun m' k => takV m' s (p + k)) m c).isSome = O at *
 obtain ⟨E1, n1, rfl, _⟩ := HM1.out.t.b
 obtain ⟨E2, n2, rfl, _⟩ := HM1.out.t.f
 obtain ⟨E3, n3, rfl, _⟩ := HM1.out.l
 obtain ⟨E4, n4, rfl, _⟩ := HM1.out.o
 clear hM1
 go_wp2
 have o3 := HR1.out.set9 (.slice E1 (V).t.bs.length n1) (.slice E2 (V).t.fs.length n2) (.slice E3 (V).c.ls.length n3) (.int .i64 (V).c.hand) (.int .i64 (V).g.count) (.int .i64 (V).g.next) (.int .i64 (V).g.round) (.slice E4 (V).g.os.length n4) (.int .i64 (V).sp)
 obtain ⟨p0t, p1t, p2t, p3t, p4t, p5t, p6t, p7t, p8t⟩ := cells9 o3
 refine bodyPost_ret (v := .tuple #[.agg #[.slice E1 (V).t.bs.length n1, .slice E2 (V).t.fs.length n2, .slice E3 (V).c.ls.length n3, .int .i64 (V).c.hand, .int .i64 (V).g.count, .int .i64 (V).g.next, .int .i64 (V).g.round, .slice E4 (V).g.os.length n4, .int .i64 (V).sp], .bool (O)]) (by simp [results, Tryz.results35, go_sem, p0t, p1t, p2t, p3t, p4t, p5t, p6t, p7t, p8t]) rfl ⟨_, rfl, _, _, _, _, by first | rfl | rw [hV, hO], ?_, ?_⟩
 ·first | exact (HM1.out.far9 HR1.out _ _ _ _ _ _ _ _ _).mono (by omega) | (rw [hV]; exact (HM1.out.far9 HR1.out _ _ _ _ _ _ _ _ _).mono (by omega))
 ·repeat (refine bS ?_ (by simp <;> omega))
  exact HB1.out
end Go.Proofs.YtibpnlojlfcpmaaGreatDoor
