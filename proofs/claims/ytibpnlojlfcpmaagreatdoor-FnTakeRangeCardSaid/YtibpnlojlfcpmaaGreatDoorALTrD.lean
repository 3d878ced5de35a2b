/- A part of the proofs of this seat: Gn, L10c, LTrD, PrT, Reg, TkS. -/
import Derived.Test.YtibpnlojlfcpmaaGreatDoorARgP
import Derived.Test.YtibpnlojlfcpmaaGreatDoorAGnv1
import Derived.Test.YtibpnlojlfcpmaaGreatDoorAL10c
import Derived.Test.YtibpnlojlfcpmaaGreatDoorAPrT
set_option linter.unusedVariables false
set_option linter.unusedSimpArgs false
set_option maxRecDepth 1000000
namespace Go.Proofs.YtibpnlojlfcpmaaGreatDoor.lTakeRange
open Go.ChangeShapes Go.WideShapes Go.ChangeAt Go.RowKit Go.Joins
set_option maxRecDepth 100000 in
theorem closed : joinedFacts Tryz.prog 8 Tryz.f8 Rows.fnTakeRangeSpec Rows.fnTakeRangeRow = true := by
 unfold joinedFacts
 rw [may_enter, lifts_final, make_cut]
 refine Eq.trans ?_ (Eq.refl _)
 kernel_rfl
end Go.Proofs.YtibpnlojlfcpmaaGreatDoor.lTakeRange
namespace Go.Proofs.YtibpnlojlfcpmaaGreatDoor
open Go.RowKit
section
variable {si : Nat}
def KX.stored (t s b B : Nat) (f : Ma → Value → Value → Value → Value → Value → Prop) : KX si where
 rd := [t, s]
 P := fun j x v => j = si ∧ ∃ (gb : Nat) (m : Ma) (e1 e2 e3 e4 : Value), x s = .pointer (some ⟨gb, 0, none⟩) ∧ b ≤ gb ∧ f m e1 e2 e3 e4 (x t) ∧ MaM B v e1 e2 e3 e4 m ∧ Own v gb 48 #[e1, e2, e3, .int .i64 m.c.hand, .int .i64 m.g.count, .int .i64 m.g.next, .int .i64 m.g.round, e4, .int .i64 m.sp]
 loc := fun _ x y _ h hp => by rw [← h s (by simp), ← h t (by simp)]; exact hp
 kb := fun _ _ _ _ ⟨hj, gb, m, e1, e2, e3, e4, h1, h2, h3, h4, h5⟩ ho => ⟨hj, gb, m, e1, e2, e3, e4, h1, h2, h3, h4.oth ho (by decide) (by decide) (by decide) (by decide), ho.2 _ _ _ h5 (by decide)⟩
 ks := fun _ _ _ _ hne ⟨hj, _⟩ _ => absurd hj hne
end
set_option maxHeartbeats 4000000 in
theorem sTakeRange0_any (vb vf vl vo : Value) (m : Ma) (s p c  : Int) (O : Ma → Nat → Bool) (V : Ma → Nat → Ma) (w : World) (hM : MaR w vb vf vl vo m)
    (hkv : ∀ m', O m' 0 = true → kval (s, p) = true) (hp : -9223372036854775808 ≤ p ∧ p ≤ 9223372036854775807)
    (hC : ∀ (c1 c2 c3 c4 : Value) (mk : Ma) (k : Nat) (W : World), k < 16 → MaR W c1 c2 c3 c4 mk →
      Calls Tryz.prog 41 #[.agg #[c1, c2, c3, .int .i64 mk.c.hand, .int .i64 mk.g.count, .int .i64 mk.g.next, .int .i64 mk.g.round, c4, .int .i64 mk.sp], .agg #[.int .i64 s, .int .i64 (p + k)]] W (Post2 fun v w' => ∃ v1 v2 v3 v4, v = .tuple #[.agg #[v1, v2, v3, .int .i64 (V mk k).c.hand, .int .i64 (V mk k).g.count, .int .i64 (V mk k).g.next, .int .i64 (V mk k).g.round, v4, .int .i64 (V mk k).sp], .bool (O mk k)] ∧ MaM W.heap.size w' v1 v2 v3 v4 (V mk k) ∧ Below W.heap.size W w')) :
    Calls Tryz.prog 38 #[.agg #[vb, vf, vl, .int .i64 m.c.hand, .int .i64 m.g.count, .int .i64 m.g.next, .int .i64 m.g.round, vo, .int .i64 m.sp], .agg #[.int .i64 s, .int .i64 p], .int .i64 c] w (Post2 fun v w' => ∃ v1 v2 v3 v4, v = .tuple #[.agg #[v1, v2, v3, .int .i64 (rgV O V m c).c.hand, .int .i64 (rgV O V m c).g.count, .int .i64 (rgV O V m c).g.next, .int .i64 (rgV O V m c).g.round, v4, .int .i64 (rgV O V m c).sp], .bool ((rgO O V m c).isSome)] ∧ MaM w.heap.size w' v1 v2 v3 v4 (rgV O V m c) ∧ Below w.heap.size w w') := by
  obtain ⟨W0, hW, hbx, hbk, hbo, hb0, hs0⟩ := box3 w #[vb, vf, vl, .int .i64 m.c.hand, .int .i64 m.g.count, .int .i64 m.g.next, .int .i64 m.g.round, vo, .int .i64 m.sp] 48 #[.int .i64 s, .int .i64 p] 61 #[.slice none 0 0, .slice none 0 0, .slice none 0 0, .int .i64 0, .int .i64 0, .int .i64 0, .int .i64 0, .slice none 0 0, .int .i64 0] 48
  have HX0 := Hd hbx
  have HK0 := Hd hbk
  have HR0 := Hd hbo
  have HB0 := Hd hb0
  have HS0 : Hid (w.heap.size + 3 ≤ W0.heap.size) := Nat.le_of_eq hs0.symm
  clear hbx hbk hbo hb0
  have HM := Hd hM
  clear hM
  obtain ⟨m00, m10, m20, m30, m40, m50, m60, m70, m80⟩ := cells9 HX0.out
  go_enter Tryz.func38, Tryz.ntmps38
  go_wp2_with fail
  refine (sMachineValid_any vb vf vl vo m _ (HM.out.now HB0.out)).mono ?_
  rintro e w2 ⟨rfl, hb2⟩
  have HX2 := Hd (HX0.out.below hb2)
  have HK2 := Hd (HK0.out.below hb2)
  have HR2 := Hd (HR0.out.below hb2)
  have HB2 := Hd (bT HB0.out hb2)
  have HS2 := Hd (Nat.le_trans HS0.out hb2.size)
  clear hb2
  clear m00 m10 m20 m30 m40 m50 m60 m70 m80
  cases h1 : mav m with
  | false =>
    have HO : Hid (rgO O V m c = none) := rgO_no (fun h => by rw [h1] at h; cases h.1)
    have HA : Hid ((rgO O V m c).isSome = false) := by show _ = _; rw [HO.out]; rfl
    have HV : Hid (rgV O V m c = maz) := by show _ = _; unfold rgV; rw [HO.out]; rfl
    obtain ⟨r0x, r1x, r2x, r3x, r4x, r5x, r6x, r7x, r8x⟩ := cells9 HR2.out
    obtain ⟨z0x, z1x, z2x, z3x, z4x, z5x, z6x, z7x, z8x⟩ := free9 HR2.out
    go_wp2
    obtain ⟨t0, t1, t2, t3, t4, t5, t6, t7, t8⟩ := cells9 (set9z HR2.out)
    refine bodyPost_ret (v := .tuple #[.agg #[.slice none 0 0, .slice none 0 0, .slice none 0 0, .int .i64 0, .int .i64 0, .int .i64 0, .int .i64 0, .slice none 0 0, .int .i64 0], .bool false]) (by simp [results, Tryz.results38, go_sem, t0, t1, t2, t3, t4, t5, t6, t7, t8]) rfl ⟨_, rfl, _, _, _, _, by rw [HA.out, HV.out]; rfl, by rw [HV.out]; exact mam_z, ?_⟩
    repeat (refine bS ?_ (by simp <;> omega))
    exact HB2.out
  | true =>
  by_cases h2 : c < 1
  · have HO : Hid (rgO O V m c = none) := rgO_no (fun h => by omega)
    have HA : Hid ((rgO O V m c).isSome = false) := by show _ = _; rw [HO.out]; rfl
    have HV : Hid (rgV O V m c = maz) := by show _ = _; unfold rgV; rw [HO.out]; rfl
    obtain ⟨r0x, r1x, r2x, r3x, r4x, r5x, r6x, r7x, r8x⟩ := cells9 HR2.out
    obtain ⟨z0x, z1x, z2x, z3x, z4x, z5x, z6x, z7x, z8x⟩ := free9 HR2.out
    go_wp2
    obtain ⟨t0, t1, t2, t3, t4, t5, t6, t7, t8⟩ := cells9 (set9z HR2.out)
    refine bodyPost_ret (v := .tuple #[.agg #[.slice none 0 0, .slice none 0 0, .slice none 0 0, .int .i64 0, .int .i64 0, .int .i64 0, .int .i64 0, .slice none 0 0, .int .i64 0], .bool false]) (by simp [results, Tryz.results38, go_sem, t0, t1, t2, t3, t4, t5, t6, t7, t8]) rfl ⟨_, rfl, _, _, _, _, by rw [HA.out, HV.out]; rfl, by rw [HV.out]; exact mam_z, ?_⟩
    repeat (refine bS ?_ (by simp <;> omega))
    exact HB2.out
  by_cases h3 : 16 < c
  · have HO : Hid (rgO O V m c = none) := rgO_no (fun h => by omega)
    have HA : Hid ((rgO O V m c).isSome = false) := by show _ = _; rw [HO.out]; rfl
    have HV : Hid (rgV O V m c = maz) := by show _ = _; unfold rgV; rw [HO.out]; rfl
    obtain ⟨r0x, r1x, r2x, r3x, r4x, r5x, r6x, r7x, r8x⟩ := cells9 HR2.out
    obtain ⟨z0x, z1x, z2x, z3x, z4x, z5x, z6x, z7x, z8x⟩ := free9 HR2.out
    go_wp2
    obtain ⟨t0, t1, t2, t3, t4, t5, t6, t7, t8⟩ := cells9 (set9z HR2.out)
    refine bodyPost_ret (v := .tuple #[.agg #[.slice none 0 0, .slice none 0 0, .slice none 0 0, .int .i64 0, .int .i64 0, .int .i64 0, .int .i64 0, .slice none 0 0, .int .i64 0], .bool false]) (by simp [results, Tryz.results38, go_sem, t0, t1, t2, t3, t4, t5, t6, t7, t8]) rfl ⟨_, rfl, _, _, _, _, by rw [HA.out, HV.out]; rfl, by rw [HV.out]; exact mam_z, ?_⟩
    repeat (refine bS ?_ (by simp <;> omega))
    exact HB2.out
  obtain ⟨n, rfl⟩ := Int.eq_ofNat_of_zero_le (show 0 ≤ c by omega)
  have hi1 : 1 ≤ n := by omega
  have hi2 : n ≤ 16 := by omega
  obtain ⟨a1, a2, a3, a4⟩ := mav_len h1
  obtain ⟨m02, m12, m22, m32, m42, m52, m62, m72, m82⟩ := cells9 HX2.out
  go_wp2_with fail
  refine (l6Copy_any vb vf vl vo m _ (HM.out.now HB2.out) a1 a2 a3 a4).mono ?_
  rintro e w3 ⟨_, rfl, q1, q2, q3, q4, rfl, hM3, hb3⟩
  have hs2 := HS2.out
  have hM3' := hM3.mono hs2
  obtain ⟨B1, d1, rfl, _⟩ := hM3.t.b
  obtain ⟨B2, d2, rfl, _⟩ := hM3.t.f
  obtain ⟨B3, d3, rfl, _⟩ := hM3.l
  obtain ⟨B4, d4, rfl, _⟩ := hM3.o
  have HX3 := Hd (HX2.out.below hb3)
  have HK3 := Hd (HK2.out.below hb3)
  have HR3 := Hd (HR2.out.below hb3)
  have HB3 := Hd (bT HB2.out hb3)
  have HS3 := Hd (Nat.le_trans HS2.out hb3.size)
  clear hb3
  clear m02 m12 m22 m32 m42 m52 m62 m72 m82
  clear hM3
  have HO2 := Hd (Own.new_ w3 48 #[.slice B1 m.t.bs.length d1, .slice B2 m.t.fs.length d2, .slice B3 m.c.ls.length d3, .int .i64 m.c.hand, .int .i64 m.g.count, .int .i64 m.g.next, .int .i64 m.g.round, .slice B4 m.g.os.length d4, .int .i64 m.sp])
  have HK4 := Hd (HK3.out.alloc (o := .cells #[.slice B1 m.t.bs.length d1, .slice B2 m.t.fs.length d2, .slice B3 m.c.ls.length d3, .int .i64 m.c.hand, .int .i64 m.g.count, .int .i64 m.g.next, .int .i64 m.g.round, .slice B4 m.g.os.length d4, .int .i64 m.sp] 48))
  have HR4 := Hd (HR3.out.alloc (o := .cells #[.slice B1 m.t.bs.length d1, .slice B2 m.t.fs.length d2, .slice B3 m.c.ls.length d3, .int .i64 m.c.hand, .int .i64 m.g.count, .int .i64 m.g.next, .int .i64 m.g.round, .slice B4 m.g.os.length d4, .int .i64 m.sp] 48))
  have HM4 := Hd (hM3'.now (bA (bR (w := w3)) (o := .cells #[.slice B1 m.t.bs.length d1, .slice B2 m.t.fs.length d2, .slice B3 m.c.ls.length d3, .int .i64 m.c.hand, .int .i64 m.g.count, .int .i64 m.g.next, .int .i64 m.g.round, .slice B4 m.g.os.length d4, .int .i64 m.sp] 48)))
  have HB4 := Hd (bA HB3.out (o := .cells #[.slice B1 m.t.bs.length d1, .slice B2 m.t.fs.length d2, .slice B3 m.c.ls.length d3, .int .i64 m.c.hand, .int .i64 m.g.count, .int .i64 m.g.next, .int .i64 m.g.round, .slice B4 m.g.os.length d4, .int .i64 m.sp] 48))
  have hgb := HR3.out.lt
  have hs3 := HS3.out
  clear hM3'
  go_wp2
  go_loopw [9] (fun u wr => ∃ (k : Nat) (mk : Ma) (c1 c2 c3 c4 : Value), k ≤ n ∧ u = .int .i64 k ∧ Hid (rgN O V m k = some mk) ∧ Own wr w3.heap.size 48 #[c1, c2, c3, .int .i64 mk.c.hand, .int .i64 mk.g.count, .int .i64 mk.g.next, .int .i64 mk.g.round, c4, .int .i64 mk.sp] ∧ MaM (w.heap.size + 3) wr c1 c2 c3 c4 mk ∧ Hid (0 < k → kval (s, p) = true) ∧ Own wr (w.heap.size + 1) 61 #[.int .i64 s, .int .i64 p] ∧ Own wr (w.heap.size + 1 + 1) 48 #[.slice none 0 0, .slice none 0 0, .slice none 0 0, .int .i64 0, .int .i64 0, .int .i64 0, .int .i64 0, .slice none 0 0, .int .i64 0] ∧ Below w.heap.size w wr) (fun u _ => n - (intOf u).toNat)
  case atStart => exact ⟨0, m, _, _, _, _, by omega, rfl, rfl, HO2.out, HM4.out, (fun h => absurd h (by omega)), HK4.out, HR4.out, HB4.out⟩
  case round =>
    obtain ⟨k, mk, c1, c2, c3, c4, hk, rfl, hput, hob, hmk, hkk, hkb, hrb, hbw⟩ := hrel
    have HOB := Hd hob
    have HMK := Hd hmk
    have HKB := Hd hkb
    have HRB := Hd hrb
    have HBW := Hd hbw
    clear hob hmk hkb hrb hbw
    by_cases hlt : k < n
    · have hwk : IntKind.i64.wrap (p + (k : Int)) = p + k := by
        rcases Nat.eq_zero_or_pos k with h0 | h0
        · subst h0
          exact IntWalk.i64_in _ (by omega)
        · have := kval_iff.1 (hkk.out h0)
          exact IntWalk.i64_in _ (by omega)
      have HC := Hd (fun W (h : MaR W c1 c2 c3 c4 mk) => hC c1 c2 c3 c4 mk k W (by omega) h)
      obtain ⟨p0y, p1y, p2y, p3y, p4y, p5y, p6y, p7y, p8y⟩ := cells9 HOB.out
      have q0 := HKB.out.cell_ 0 (v := .int .i64 s) rfl
      have q1 := HKB.out.cell_ 1 (v := .int .i64 p) rfl
      have hgl0 := HOB.out.lt
      have hgl1 := HKB.out.lt
      go_wp2_with fail
      refine (HC.out _ HMK.out.r).mono ?_
      rintro e w5 ⟨_, rfl, e1, e2, e3, e4, rfl, hM5, hb5⟩
      have hsw : w.heap.size + 3 ≤ wr.heap.size := Nat.le_trans hs3 (Nat.le_of_lt HOB.out.lt)
      have HM5 := Hd (hM5.mono hsw)
      obtain ⟨E1, n1, rfl, _⟩ := HM5.out.t.b
      obtain ⟨E2, n2, rfl, _⟩ := HM5.out.t.f
      obtain ⟨E3, n3, rfl, _⟩ := HM5.out.l
      obtain ⟨E4, n4, rfl, _⟩ := HM5.out.o
      have HOB5 := HOB.out.below hb5
      have hgl5 := HOB5.lt
      have hO6 := HOB5.alloc (o := .cells #[.slice E1 (V mk k).t.bs.length n1, .slice E2 (V mk k).t.fs.length n2, .slice E3 (V mk k).c.ls.length n3, .int .i64 (V mk k).c.hand, .int .i64 (V mk k).g.count, .int .i64 (V mk k).g.next, .int .i64 (V mk k).g.round, .slice E4 (V mk k).g.os.length n4, .int .i64 (V mk k).sp] 48)
      have hK6 := (HKB.out.below hb5).alloc (o := .cells #[.slice E1 (V mk k).t.bs.length n1, .slice E2 (V mk k).t.fs.length n2, .slice E3 (V mk k).c.ls.length n3, .int .i64 (V mk k).c.hand, .int .i64 (V mk k).g.count, .int .i64 (V mk k).g.next, .int .i64 (V mk k).g.round, .slice E4 (V mk k).g.os.length n4, .int .i64 (V mk k).sp] 48)
      have hR6 := (HRB.out.below hb5).alloc (o := .cells #[.slice E1 (V mk k).t.bs.length n1, .slice E2 (V mk k).t.fs.length n2, .slice E3 (V mk k).c.ls.length n3, .int .i64 (V mk k).c.hand, .int .i64 (V mk k).g.count, .int .i64 (V mk k).g.next, .int .i64 (V mk k).g.round, .slice E4 (V mk k).g.os.length n4, .int .i64 (V mk k).sp] 48)
      have hN6 := Own.new_ w5 48 #[.slice E1 (V mk k).t.bs.length n1, .slice E2 (V mk k).t.fs.length n2, .slice E3 (V mk k).c.ls.length n3, .int .i64 (V mk k).c.hand, .int .i64 (V mk k).g.count, .int .i64 (V mk k).g.next, .int .i64 (V mk k).g.round, .slice E4 (V mk k).g.os.length n4, .int .i64 (V mk k).sp]
      have hM6 := HM5.out.now (bA (bR (w := w5)) (o := .cells #[.slice E1 (V mk k).t.bs.length n1, .slice E2 (V mk k).t.fs.length n2, .slice E3 (V mk k).c.ls.length n3, .int .i64 (V mk k).c.hand, .int .i64 (V mk k).g.count, .int .i64 (V mk k).g.next, .int .i64 (V mk k).g.round, .slice E4 (V mk k).g.os.length n4, .int .i64 (V mk k).sp] 48))
      have hB6 := bA (bT HBW.out hb5) (o := .cells #[.slice E1 (V mk k).t.bs.length n1, .slice E2 (V mk k).t.fs.length n2, .slice E3 (V mk k).c.ls.length n3, .int .i64 (V mk k).c.hand, .int .i64 (V mk k).g.count, .int .i64 (V mk k).g.next, .int .i64 (V mk k).g.round, .slice E4 (V mk k).g.os.length n4, .int .i64 (V mk k).sp] 48)
      clear p0y p1y p2y p3y p4y p5y p6y p7y p8y q0 q1 hM5 hb5 HOB5
      have hne1 : w3.heap.size ≠ w5.heap.size := by omega
      generalize hW6 : w5.alloc (.cells #[.slice E1 (V mk k).t.bs.length n1, .slice E2 (V mk k).t.fs.length n2, .slice E3 (V mk k).c.ls.length n3, .int .i64 (V mk k).c.hand, .int .i64 (V mk k).g.count, .int .i64 (V mk k).g.next, .int .i64 (V mk k).g.round, .slice E4 (V mk k).g.os.length n4, .int .i64 (V mk k).sp] 48) = w6 at *
      have HO6 := Hd hO6
      have HK6 := Hd hK6
      have HR6 := Hd hR6
      have HN6 := Hd hN6
      have HM6 := Hd hM6
      have HB6 := Hd hB6
      clear hO6 hK6 hR6 hN6 hM6 hB6
      have hl6 := HO6.out.lt
      have hl7 := HR6.out.lt
      have hl8 := HN6.out.lt
      cases hok : O mk k with
      | false =>
        have HO : Hid (rgO O V m n = none) := by show _ = _; rw [rgO_yes h1 hi1 hi2]; exact rgN_none (rgN_bad hput.out hok) (by omega)
        have HA : Hid ((rgO O V m n).isSome = false) := by show _ = _; rw [HO.out]; rfl
        have HV : Hid (rgV O V m n = maz) := by show _ = _; unfold rgV; rw [HO.out]; rfl
        obtain ⟨r0x, r1x, r2x, r3x, r4x, r5x, r6x, r7x, r8x⟩ := cells9 HR6.out
        obtain ⟨z0x, z1x, z2x, z3x, z4x, z5x, z6x, z7x, z8x⟩ := free9 HR6.out
        go_wp2
        obtain ⟨t0, t1, t2, t3, t4, t5, t6, t7, t8⟩ := cells9 (set9z HR6.out)
        refine bodyPost_ret (v := .tuple #[.agg #[.slice none 0 0, .slice none 0 0, .slice none 0 0, .int .i64 0, .int .i64 0, .int .i64 0, .int .i64 0, .slice none 0 0, .int .i64 0], .bool false]) (by simp [results, Tryz.results38, go_sem, t0, t1, t2, t3, t4, t5, t6, t7, t8]) rfl ⟨_, rfl, _, _, _, _, by rw [HA.out, HV.out]; rfl, by rw [HV.out]; exact mam_z, ?_⟩
        repeat (refine bS ?_ (by simp <;> omega))
        exact HB6.out
      | true =>
        have HPUT := Hd (rgN_step hput.out hok)
        obtain ⟨p0z, p1z, p2z, p3z, p4z, p5z, p6z, p7z, p8z⟩ := cells9 HO6.out
        obtain ⟨w0z, w1z, w2z, w3z, w4z, w5z, w6z, w7z, w8z⟩ := free9 HO6.out
        obtain ⟨p0n, p1n, p2n, p3n, p4n, p5n, p6n, p7n, p8n⟩ := cells9 HN6.out
        go_wp2
        go_roundw
        case rel =>
          refine ⟨k + 1, V mk k, _, _, _, _, by omega, by go_num, HPUT, HO6.out.set9 _ _ _ _ _ _ _ _ _, HM6.out.far9 HO6.out _ _ _ _ _ _ _ _ _, (fun _ => (Nat.eq_zero_or_pos k).elim (fun h0 => by subst h0; exact hkv mk hok) (fun h0 => hkk.out h0)), HK6.out.far9 (by omega) _ _ _ _ _ _ _ _ _, HR6.out.far9 (by omega) _ _ _ _ _ _ _ _ _, ?_⟩
          repeat (refine bS ?_ (by simp <;> omega))
          exact HB6.out
        case measure => simp [intOf]; omega
    · obtain rfl : k = n := by omega
      have HO : Hid (rgO O V m k = some mk) := by show _ = _; rw [rgO_yes h1 hi1 hi2]; exact hput.out
      have HA : Hid ((rgO O V m k).isSome = true) := by show _ = _; rw [HO.out]; rfl
      have HV : Hid (rgV O V m k = mk) := by show _ = _; unfold rgV; rw [HO.out]; rfl
      obtain ⟨C1, n1, rfl, _⟩ := HMK.out.t.b
      obtain ⟨C2, n2, rfl, _⟩ := HMK.out.t.f
      obtain ⟨C3, n3, rfl, _⟩ := HMK.out.l
      obtain ⟨C4, n4, rfl, _⟩ := HMK.out.o
      obtain ⟨p0z, p1z, p2z, p3z, p4z, p5z, p6z, p7z, p8z⟩ := cells9 HOB.out
      obtain ⟨r0x, r1x, r2x, r3x, r4x, r5x, r6x, r7x, r8x⟩ := cells9 HRB.out
      obtain ⟨z0x, z1x, z2x, z3x, z4x, z5x, z6x, z7x, z8x⟩ := free9 HRB.out
      have hgl := HOB.out.lt
      have hrl := HRB.out.lt
      go_wp2
      have o3 := HRB.out.set9 (.slice C1 mk.t.bs.length n1) (.slice C2 mk.t.fs.length n2) (.slice C3 mk.c.ls.length n3) (.int .i64 mk.c.hand) (.int .i64 mk.g.count) (.int .i64 mk.g.next) (.int .i64 mk.g.round) (.slice C4 mk.g.os.length n4) (.int .i64 mk.sp)
      obtain ⟨p0t, p1t, p2t, p3t, p4t, p5t, p6t, p7t, p8t⟩ := cells9 o3
      refine bodyPost_ret (v := .tuple #[.agg #[.slice C1 mk.t.bs.length n1, .slice C2 mk.t.fs.length n2, .slice C3 mk.c.ls.length n3, .int .i64 mk.c.hand, .int .i64 mk.g.count, .int .i64 mk.g.next, .int .i64 mk.g.round, .slice C4 mk.g.os.length n4, .int .i64 mk.sp], .bool true]) (by simp [results, Tryz.results38, go_sem, p0t, p1t, p2t, p3t, p4t, p5t, p6t, p7t, p8t]) rfl ⟨_, rfl, _, _, _, _, by rw [HA.out, HV.out], ?_, ?_⟩
      · rw [HV.out]
        exact (HMK.out.far9 HRB.out _ _ _ _ _ _ _ _ _).mono (by omega)
      · repeat (refine bS ?_ (by simp <;> omega))
        exact HBW.out
theorem sTakeRange_any (vb vf vl vo : Value) (m : Ma) (s p c : Int) (w : World) (hM : MaR w vb vf vl vo m) (hp : -9223372036854775808 ≤ p ∧ p ≤ 9223372036854775807) :
  Calls Tryz.prog 38 #[.agg #[vb, vf, vl, .int .i64 m.c.hand, .int .i64 m.g.count, .int .i64 m.g.next, .int .i64 m.g.round, vo, .int .i64 m.sp], .agg #[.int .i64 s, .int .i64 p], .int .i64 c] w (Post2 fun v w' => ∃ v1 v2 v3 v4, v = .tuple #[.agg #[v1, v2, v3, .int .i64 (rgV (fun m' k => takO m' s (p + k)) (fun m' k => takV m' s (p + k)) m c).c.hand, .int .i64 (rgV (fun m' k => takO m' s (p + k)) (fun m' k => takV m' s (p + k)) m c).g.count, .int .i64 (rgV (fun m' k => takO m' s (p + k)) (fun m' k => takV m' s (p + k)) m c).g.next, .int .i64 (rgV (fun m' k => takO m' s (p + k)) (fun m' k => takV m' s (p + k)) m c).g.round, v4, .int .i64 (rgV (fun m' k => takO m' s (p + k)) (fun m' k => takV m' s (p + k)) m c).sp], .bool ((rgO (fun m' k => takO m' s (p + k)) (fun m' k => takV m' s (p + k)) m c).isSome)] ∧ MaM w.heap.size w' v1 v2 v3 v4 (rgV (fun m' k => takO m' s (p + k)) (fun m' k => takV m' s (p + k)) m c) ∧ Below w.heap.size w w') :=
 sTakeRange0_any vb vf vl vo m s p c (fun m' k => takO m' s (p + k)) (fun m' k => takV m' s (p + k)) w hM (fun m' h => takO_kval h) hp (fun c1 c2 c3 c4 mk k W _ h => sTakePage_any c1 c2 c3 c4 mk s (p + k) W h)
section
variable {q : TypeId → Prop} {B : Nat} {nums : List Nat} {S : List SBx}
def KG.rdr (hn : nums.Nodup) (s : Nat) : KG q B nums S where
 rd := [s]
 P := fun D x v => ∃ gr p : Nat, x s = .pointer (some ⟨gr, 0, none⟩) ∧ p ≤ 1000 * cn D nums ∧ Rdr B v gr p
 loc := fun _ x y _ h hp => by rw [← h s (by simp)]; exact hp
 keep := fun i D _ _ _ hD ⟨gr, p, h1, h2, h3⟩ ht => by
  obtain ⟨p', h4, h5⟩ := ht.rd _ _ h3
  exact ⟨gr, p', h1, by rw [cn_dn hn hD]; omega, h5⟩
end
def isIn (zs : List Int) (u : Value) : Prop := ∃ z : Int, u = .int .i64 z ∧ z ∈ zs
def isPk (n : Int) (u : Value) : Prop := ∃ z : Int, u = .int .i64 z ∧ 0 ≤ z ∧ (1 ≤ n → z < n)
def isKy (u : Value) : Prop := ∃ a b : Int, u = .agg #[.int .i64 a, .int .i64 b] ∧ small a ∧ small b
abbrev sbK (op box : Nat) : SBx := ⟨op, box, 61, #[.int .i64 0, .int .i64 0], fun cs _ => ∃ a b : Int, cs = #[.int .i64 a, .int .i64 b] ∧ small a ∧ small b⟩
set_option maxHeartbeats 4000000 in
theorem l10Case_any (A : Option Addr) (n c : Nat) (w : World) (hb : Bytes w.heap.size w A n) (hc : n ≤ c) (hn : n ≤ 1048576) :
  Calls Tryz.prog 70 #[.slice A n c] w (Post2 fun v w' => L10P w v w') := by
 have ho := Own.new_ w 48 #[.slice none 0 0, .slice none 0 0, .slice none 0 0, .int .i64 0, .int .i64 0, .int .i64 0, .int .i64 0, .slice none 0 0, .int .i64 0]
 have hb0 : Below w.heap.size w (w.alloc (.cells #[.slice none 0 0, .slice none 0 0, .slice none 0 0, .int .i64 0, .int .i64 0, .int .i64 0, .int .i64 0, .slice none 0 0, .int .i64 0] 48)) := bA bR
 have hs0 : (w.alloc (.cells #[.slice none 0 0, .slice none 0 0, .slice none 0 0, .int .i64 0, .int .i64 0, .int .i64 0, .int .i64 0, .slice none 0 0, .int .i64 0] 48)).heap.size = w.heap.size + 1 := by simp
 generalize hW : w.alloc (.cells #[.slice none 0 0, .slice none 0 0, .slice none 0 0, .int .i64 0, .int .i64 0, .int .i64 0, .int .i64 0, .slice none 0 0, .int .i64 0] 48) = W0 at ho hb0 hs0
 have KO := Hd (l12Open_low w.heap.size A n c W0 (hb.keep fun q hq => hb0.cell hq) (by omega) hc hn)
 have HN := Hd ho
 have HB := Hd hb0
 clear ho hb0 hb
 go_enter Tryz.func70, Tryz.ntmps70
 go_wp2_with fail
 refine KO.out.mono ?_
 rintro e w1 ⟨rfl, hrd, hb1⟩
 have hn := HN.out.below hb1
 have hbl := bT HB.out hb1
 rw [hs0] at hrd ⊢
 clear HN HB KO hb1
 have HRD := Hd hrd
 have HN := Hd hn
 have HB := Hd hbl
 clear hrd hn hbl
 have hs1 := HB.out.size
 clear hW
 have hgB : w.heap.size < w.heap.size + 1 := by omega
 generalize hg : w.heap.size + 1 = g at *
 go_wp2_with fail
 refine (l6Draw_any w.heap.size g 0 w1 HRD.out (by omega) hs1).mono ?_
 rintro e w2 ⟨_, rfl, m0, q1, q2, q3, q4, p2, rfl, hM2, hz2, hrd, hp2, hgr⟩
 obtain ⟨Z1, y1, rfl, _⟩ := hM2.t.b
 obtain ⟨Z2, y2, rfl, _⟩ := hM2.t.f
 obtain ⟨Z3, y3, rfl, _⟩ := hM2.l
 obtain ⟨Z4, y4, rfl, _⟩ := hM2.o
 have hn := own_gr HN.out hgr (by omega)
 have hb2 := bG HB.out hgr (by intro k hk; injection hk with hk; omega)
 have hgw : g < w2.heap.size := rdr_lt hrd
 have hBw : w.heap.size ≤ w2.heap.size := hb2.size
 have ho4 := Own.new_ w2 48 #[.slice Z1 m0.t.bs.length y1, .slice Z2 m0.t.fs.length y2, .slice Z3 m0.c.ls.length y3, .int .i64 m0.c.hand, .int .i64 m0.g.count, .int .i64 m0.g.next, .int .i64 m0.g.round, .slice Z4 m0.g.os.length y4, .int .i64 m0.sp]
 have hb4 : Below w2.heap.size w2 (w2.alloc (.cells #[.slice Z1 m0.t.bs.length y1, .slice Z2 m0.t.fs.length y2, .slice Z3 m0.c.ls.length y3, .int .i64 m0.c.hand, .int .i64 m0.g.count, .int .i64 m0.g.next, .int .i64 m0.g.round, .slice Z4 m0.g.os.length y4, .int .i64 m0.sp] 48)) := bA bR
 generalize hW4 : w2.alloc (.cells #[.slice Z1 m0.t.bs.length y1, .slice Z2 m0.t.fs.length y2, .slice Z3 m0.c.ls.length y3, .int .i64 m0.c.hand, .int .i64 m0.g.count, .int .i64 m0.g.next, .int .i64 m0.g.round, .slice Z4 m0.g.os.length y4, .int .i64 m0.sp] 48) = w4 at ho4 hb4
 have HN2 := Hd hn
 have HB2 := Hd hb2
 have HO4 := Hd ho4
 have HM4 := Hd (hM2.now hb4)
 have HRD4 := Hd (rdr_below hrd hb4)
 have HGR4 := Hd (gr_below (g := g) hb4)
 have HZ4 := Hd hz2
 clear HRD HN HB hn hb2 hrd hgr ho4 hb4 hM2 hz2 hs1
 have hmb2 : w2.heap.size ≤ w2.heap.size := Nat.le_refl _
 generalize hmb : w2.heap.size = mb at hmb2 HO4 hW4 ⊢
 have hgm : g < mb := by omega
 go_wp2
 go_loopw [5] (fun u wr => ∃ (k : Nat) (m : Ma) (v1 v2 v3 v4 : Value) (p : Nat), 1 ≤ k ∧ k ≤ 5 ∧ u = .int .i64 k ∧ p ≤ 110 + 2 * k ∧ Own wr mb 48 #[v1, v2, v3, .int .i64 m.c.hand, .int .i64 m.g.count, .int .i64 m.g.next, .int .i64 m.g.round, v4, .int .i64 m.sp] ∧ MaM w.heap.size wr v1 v2 v3 v4 m ∧ Sz 17 m ∧ Rdr w.heap.size wr g p ∧ w2.grownBy wr (some g)) (fun u _ => 5 - (intOf u).toNat)
 case atStart => exact ⟨1, m0, _, _, _, _, p2, by omega, by omega, by simp, by omega, HO4.out, HM4.out, HZ4.out, HRD4.out, HGR4.out⟩
 case round =>
  obtain ⟨k, m, v1, v2, v3, v4, p, hk1, hk, rfl, hp, ho, hm, hz, hrd, hgr⟩ := hrel
  obtain ⟨A1, c1, rfl, _⟩ := hm.t.b
  obtain ⟨A2, c2, rfl, _⟩ := hm.t.f
  obtain ⟨A3, c3, rfl, _⟩ := hm.l
  obtain ⟨A4, c4, rfl, _⟩ := hm.o
  have hzf : m.t.fs.length ≤ 17 := hz.f
  have HZ := Hd hz
  have HDC : Hid (DC w.heap.size w2 g p [(mb, 48, #[.slice A1 m.t.bs.length c1, .slice A2 m.t.fs.length c2, .slice A3 m.c.ls.length c3, .int .i64 m.c.hand, .int .i64 m.g.count, .int .i64 m.g.next, .int .i64 m.g.round, .slice A4 m.g.os.length c4, .int .i64 m.sp])] (.slice A1 m.t.bs.length c1) (.slice A2 m.t.fs.length c2) (.slice A3 m.c.ls.length c3) (.slice A4 m.g.os.length c4) m wr) := ⟨hrd, hgr, hm, by intro e he; simp at he; subst he; exact ho, by intro e he; simp at he; subst he; exact (by decide : 48 ≠ 172)⟩
  clear hz HO4 HM4 HZ4 HRD4 HGR4 ho hm hrd hgr
  by_cases hlt : k ≤ 4
  ·have hki : (k : Int) ≤ 4 := by omega
   go_wp2
   refine wp_region_rel2 (by kernel_rfl) [17, 18, 19, 20, 21, 22, 23, 24, 25, 26, 27, 28, 29, 30, 31, 16, 32, 33, 6, 7] [[17], [18], [19], [20], [21], [22], [23], [24], [25], [26], [27], [28], [29], [30], [31], [16], [16, 32], [16, 33], [6], [16, 6], [16, 7]] (CX w.heap.size w2 g (p) [(mb, 48, #[.slice A1 m.t.bs.length c1, .slice A2 m.t.fs.length c2, .slice A3 m.c.ls.length c3, .int .i64 m.c.hand, .int .i64 m.g.count, .int .i64 m.g.next, .int .i64 m.g.round, .slice A4 m.g.os.length c4, .int .i64 m.sp])] (.slice A1 m.t.bs.length c1) (.slice A2 m.t.fs.length c2) (.slice A3 m.c.ls.length c3) (.slice A4 m.g.os.length c4) m [10, 13] 19 none) (kxs (si := 19) [KX.eq 17 (.agg #[.slice A1 m.t.bs.length c1, .slice A2 m.t.fs.length c2, .slice A3 m.c.ls.length c3, .int .i64 m.c.hand, .int .i64 m.g.count, .int .i64 m.g.next, .int .i64 m.g.round, .slice A4 m.g.os.length c4, .int .i64 m.sp]), KX.eq 18 (.pointer (some ⟨mb, 8, none⟩)), KX.eq 19 (.int .i64 m.sp), KX.eq 20 (.int .i64 (k : Int)), KX.eq 21 (.agg #[.int .i64 m.sp, .int .i64 (k : Int)]), KX.eq 22 (.pointer (some ⟨g, 0, none⟩)), KX.eq 23 (.pointer (some ⟨mb, 0, none⟩)), KX.eq 24 (.pointer (some ⟨mb, 1, none⟩)), KX.eq 25 (.slice A2 m.t.fs.length c2), KX.eq 26 (.int .i64 (m.t.fs.length : Int)), KX.sat 27 isN, KX.eq 28 (.pointer (some ⟨g, 0, none⟩)), KX.lit 29 #[.int .i64 3, .int .i64 3, .int .i64 1] 3, KX.sat 30 isN, KX.tup 31 w.heap.size okM, KX.tup 16 w.heap.size okM, KX.fst 16 32 w.heap.size okM, KX.part 16 33 1, KX.box 6 (mb + 1), KX.stored 16 6 (mb + 1) w.heap.size okM, KX.part 16 7 1]) (tX 19) (by kernel_rfl) ?_ (kxs_loc (si := 19) (ks := [KX.eq 17 (.agg #[.slice A1 m.t.bs.length c1, .slice A2 m.t.fs.length c2, .slice A3 m.c.ls.length c3, .int .i64 m.c.hand, .int .i64 m.g.count, .int .i64 m.g.next, .int .i64 m.g.round, .slice A4 m.g.os.length c4, .int .i64 m.sp]), KX.eq 18 (.pointer (some ⟨mb, 8, none⟩)), KX.eq 19 (.int .i64 m.sp), KX.eq 20 (.int .i64 (k : Int)), KX.eq 21 (.agg #[.int .i64 m.sp, .int .i64 (k : Int)]), KX.eq 22 (.pointer (some ⟨g, 0, none⟩)), KX.eq 23 (.pointer (some ⟨mb, 0, none⟩)), KX.eq 24 (.pointer (some ⟨mb, 1, none⟩)), KX.eq 25 (.slice A2 m.t.fs.length c2), KX.eq 26 (.int .i64 (m.t.fs.length : Int)), KX.sat 27 isN, KX.eq 28 (.pointer (some ⟨g, 0, none⟩)), KX.lit 29 #[.int .i64 3, .int .i64 3, .int .i64 1] 3, KX.sat 30 isN, KX.tup 31 w.heap.size okM, KX.tup 16 w.heap.size okM, KX.fst 16 32 w.heap.size okM, KX.part 16 33 1, KX.box 6 (mb + 1), KX.stored 16 6 (mb + 1) w.heap.size okM, KX.part 16 7 1])) kxs_keep ?_ ?_
   ·refine ⟨?_, fun b hb _ => ?_⟩
    ·rw [cn_zero]
     exact HDC.out.below (bD bR)
    ·cases hb
   ·intro i o ho D x v hD hC hd K hK
    match i, ho with
    | 0, ho =>
     cases ho
     simp only [fillA, Act.put, sA9, sB9, sC9] at hK ⊢
     have hx := hC.1.own (b := mb) (t := 48) (cs := #[.slice A1 m.t.bs.length c1, .slice A2 m.t.fs.length c2, .slice A3 m.c.ls.length c3, .int .i64 m.c.hand, .int .i64 m.g.count, .int .i64 m.g.next, .int .i64 m.g.round, .slice A4 m.g.os.length c4, .int .i64 m.sp]) (by simp)
     obtain ⟨z0, z1, z2, z3, z4, z5, z6, z7, z8⟩ := cells9 hx
     go_simp
     exact hK _ _ (tX_same (by decide)) (hC.same (by decide) (by decide)) rfl
    | 1, ho =>
     cases ho
     simp only [fillA, Act.put, sA9, sB9, sC9] at hK ⊢
     go_simp
     exact hK _ _ (tX_same (by decide)) (hC.same (by decide) (by decide)) rfl
    | 2, ho =>
     cases ho
     simp only [fillA, Act.put, sA9, sB9, sC9] at hK ⊢
     have d0 := hd 1 ⟨⟨1, .data⟩, by simp, rfl, rfl⟩
     change x 18 = .pointer (some ⟨mb, 8, none⟩) at d0
     have hx := hC.1.own (b := mb) (t := 48) (cs := #[.slice A1 m.t.bs.length c1, .slice A2 m.t.fs.length c2, .slice A3 m.c.ls.length c3, .int .i64 m.c.hand, .int .i64 m.g.count, .int .i64 m.g.next, .int .i64 m.g.round, .slice A4 m.g.os.length c4, .int .i64 m.sp]) (by simp)
     have z8 := hx.cell_ 8 (v := .int .i64 m.sp) rfl
     simp only [d0] at hK ⊢
     go_simp
     exact hK _ _ (tX_same (by decide)) (hC.same (by decide) (by decide)) rfl
    | 3, ho =>
     cases ho
     simp only [fillA, Act.put, sA9, sB9, sC9] at hK ⊢
     go_simp
     exact hK _ _ (tX_same (by decide)) (hC.same (by decide) (by decide)) rfl
    | 4, ho =>
     cases ho
     simp only [fillA, Act.put, sA9, sB9, sC9] at hK ⊢
     have d0 := hd 2 ⟨⟨2, .data⟩, by simp, rfl, rfl⟩
     change x 19 = .int .i64 m.sp at d0
     have d1 := hd 3 ⟨⟨3, .data⟩, by simp, rfl, rfl⟩
     change x 20 = .int .i64 (k : Int) at d1
     simp only [d0, d1] at hK ⊢
     go_simp
     exact hK _ _ (tX_same (by decide)) (hC.same (by decide) (by decide)) rfl
    | 5, ho =>
     cases ho
     simp only [fillA, Act.put, sA9, sB9, sC9] at hK ⊢
     go_simp
     exact hK _ _ (tX_same (by decide)) (hC.same (by decide) (by decide)) rfl
    | 6, ho =>
     cases ho
     simp only [fillA, Act.put, sA9, sB9, sC9] at hK ⊢
     go_simp
     exact hK _ _ (tX_same (by decide)) (hC.same (by decide) (by decide)) rfl
    | 7, ho =>
     cases ho
     simp only [fillA, Act.put, sA9, sB9, sC9] at hK ⊢
     have d0 := hd 6 ⟨⟨6, .data⟩, by simp, rfl, rfl⟩
     change x 23 = .pointer (some ⟨mb, 0, none⟩) at d0
     simp only [d0] at hK ⊢
     go_simp
     exact hK _ _ (tX_same (by decide)) (hC.same (by decide) (by decide)) rfl
    | 8, ho =>
     cases ho
     simp only [fillA, Act.put, sA9, sB9, sC9] at hK ⊢
     have d0 := hd 7 ⟨⟨7, .data⟩, by simp, rfl, rfl⟩
     change x 24 = .pointer (some ⟨mb, 1, none⟩) at d0
     have hx := hC.1.own (b := mb) (t := 48) (cs := #[.slice A1 m.t.bs.length c1, .slice A2 m.t.fs.length c2, .slice A3 m.c.ls.length c3, .int .i64 m.c.hand, .int .i64 m.g.count, .int .i64 m.g.next, .int .i64 m.g.round, .slice A4 m.g.os.length c4, .int .i64 m.sp]) (by simp)
     have z1 := hx.cell_ 1 (v := .slice A2 m.t.fs.length c2) rfl
     simp only [d0] at hK ⊢
     go_simp
     exact hK _ _ (tX_same (by decide)) (hC.same (by decide) (by decide)) rfl
    | 9, ho =>
     cases ho
     simp only [fillA, Act.put, sA9, sB9, sC9] at hK ⊢
     have d0 := hd 8 ⟨⟨8, .data⟩, by simp, rfl, rfl⟩
     change x 25 = .slice A2 m.t.fs.length c2 at d0
     simp only [d0] at hK ⊢
     go_simp
     exact hK _ _ (tX_same (by decide)) (hC.same (by decide) (by decide)) rfl
    | 10, ho =>
     cases ho
     simp only [fillA, Act.put, sA9, sB9, sC9] at hK ⊢
     have d0 := hd 5 ⟨⟨5, .data⟩, by simp, rfl, rfl⟩
     change x 22 = .pointer (some ⟨g, 0, none⟩) at d0
     have d1 := hd 9 ⟨⟨9, .data⟩, by simp, rfl, rfl⟩
     change x 26 = .int .i64 (m.t.fs.length : Int) at d1
     simp only [d0, d1] at hK ⊢
     have hcn : cn D [10, 13] ≤ 2 := cn_le D _
     go_wp2_with fail
     refine (pick_any w.heap.size g (p + cn D [10, 13]) (m.t.fs.length : Int) v hC.1.rd (by omega) (by omega)).mono ?_
     rintro e v' ⟨z, rfl, _, _, hrd, hgr⟩
     go_simp
     exact hK _ _ (tX_oth (by decide) (hC.1.oth hgr)) (hC.read hD (by decide) (by decide) (by decide) hrd hgr) ⟨_, rfl⟩
    | 11, ho =>
     cases ho
     simp only [fillA, Act.put, sA9, sB9, sC9] at hK ⊢
     go_simp
     exact hK _ _ (tX_same (by decide)) (hC.same (by decide) (by decide)) rfl
    | 12, ho =>
     cases ho
     simp only [fillA, Act.put, sA9, sB9, sC9] at hK ⊢
     go_simp
     exact hK _ _ (tX_below (by decide) (bA bR)) (hC.below (bA bR) (by decide) (by decide)) ⟨_, rfl, Own.new_ _ _ _⟩
    | 13, ho =>
     cases ho
     simp only [fillA, Act.put, sA9, sB9, sC9] at hK ⊢
     have d0 := hd 11 ⟨⟨11, .data⟩, by simp, rfl, rfl⟩
     change x 28 = .pointer (some ⟨g, 0, none⟩) at d0
     have d1 := hd 12 ⟨⟨12, .data⟩, by simp, rfl, rfl⟩
     obtain ⟨gd1, d1, od1⟩ := d1
     change x 29 = .slice (some ⟨gd1, 0, none⟩) 3 3 at d1
     simp only [d0, d1] at hK ⊢
     have hcn : cn D [10, 13] ≤ 2 := cn_le D _
     obtain ⟨Ar, nr, cr, hor, _⟩ := hC.1.rd.ok
     go_wp2_with fail
     refine (num_any w.heap.size g (p + cn D [10, 13]) gd1 [3, 3, 1] v hC.1.rd od1 (od1.ne hor (by decide)) (by omega) (by simp) (by simp)).mono ?_
     rintro e v' ⟨z, rfl, _, hrd, hgr⟩
     go_simp
     exact hK _ _ (tX_oth (by decide) (hC.1.oth hgr)) (hC.read hD (by decide) (by decide) (by decide) hrd hgr) ⟨_, rfl⟩
    | 14, ho =>
     cases ho
     simp only [fillA, Act.put, sA9, sB9, sC9] at hK ⊢
     have d0 := hd 0 ⟨⟨0, .data⟩, by simp, rfl, rfl⟩
     change x 17 = .agg #[.slice A1 m.t.bs.length c1, .slice A2 m.t.fs.length c2, .slice A3 m.c.ls.length c3, .int .i64 m.c.hand, .int .i64 m.g.count, .int .i64 m.g.next, .int .i64 m.g.round, .slice A4 m.g.os.length c4, .int .i64 m.sp] at d0
     have d1 := hd 4 ⟨⟨4, .data⟩, by simp, rfl, rfl⟩
     change x 21 = .agg #[.int .i64 m.sp, .int .i64 (k : Int)] at d1
     have d2 := hd 10 ⟨⟨10, .data⟩, by simp, rfl, rfl⟩
     obtain ⟨nd2, d2⟩ := d2
     change x 27 = .int .i64 nd2 at d2
     have d3 := hd 13 ⟨⟨13, .data⟩, by simp, rfl, rfl⟩
     obtain ⟨nd3, d3⟩ := d3
     change x 30 = .int .i64 nd3 at d3
     simp only [d0, d1, d2, d3] at hK ⊢
     have hBv : w.heap.size ≤ v.heap.size := Nat.le_trans hBw hC.1.gr.size
     go_wp2_with fail
     refine (sPutPage_any _ _ _ _ m _ _ _ _ v hC.1.mm.r).mono ?_
     rintro e v' ⟨_, rfl, e1, e2, e3, e4, rfl, hm, hb⟩
     go_simp
     exact hK _ _ (tX_below (by decide) hb) (hC.below hb (by decide) (by decide)) ⟨_, e1, e2, e3, e4, ⟨_, rfl, fun h => (Sz.of (mav_put h)).up (by omega)⟩, hm.mono hBv⟩
    | 15, ho =>
     cases ho
     simp only [fillA, Act.put, sA9, sB9, sC9] at hK ⊢
     obtain ⟨m', e1, e2, e3, e4, ⟨ok, hx, hsz⟩, hm⟩ := hd 14 ⟨⟨14, .data⟩, by simp, rfl, rfl⟩
     change x 31 = _ at hx
     simp only [hx] at hK ⊢
     go_simp
     exact hK _ _ (tX_same (by decide)) (hC.same (by decide) (by decide)) ⟨m', e1, e2, e3, e4, ⟨ok, rfl, hsz⟩, hm⟩
    | 16, ho =>
     cases ho
     simp only [fillA, Act.put, sA9, sB9, sC9] at hK ⊢
     obtain ⟨m', e1, e2, e3, e4, ⟨ok, hx, hsz⟩, hm⟩ := hd 15 ⟨⟨15, .data⟩, by simp, rfl, rfl⟩
     change x 16 = _ at hx
     have hx' := hx
     simp only [hx'] at hK ⊢
     go_simp
     exact hK _ _ (tX_same (by decide)) (hC.same (by decide) (by decide)) ⟨m', e1, e2, e3, e4, ⟨ok, hx, hsz⟩, rfl, hm⟩
    | 17, ho =>
     cases ho
     simp only [fillA, Act.put, sA9, sB9, sC9] at hK ⊢
     obtain ⟨m', e1, e2, e3, e4, ⟨ok, hx, hsz⟩, hm⟩ := hd 15 ⟨⟨15, .data⟩, by simp, rfl, rfl⟩
     change x 16 = _ at hx
     have hx' := hx
     simp only [hx'] at hK ⊢
     go_simp
     exact hK _ _ (tX_same (by decide)) (hC.same (by decide) (by decide)) ⟨_, hx, rfl⟩
    | 18, ho =>
     cases ho
     simp only [fillA, Act.put, sA9, sB9, sC9] at hK ⊢
     go_simp
     exact hK _ _ (tX_below (by decide) (bA bR)) (hC.below (bA bR) (by decide) (by decide)) ⟨_, _, rfl, (hC.1.own (b := mb) (t := 48) (cs := #[.slice A1 m.t.bs.length c1, .slice A2 m.t.fs.length c2, .slice A3 m.c.ls.length c3, .int .i64 m.c.hand, .int .i64 m.g.count, .int .i64 m.g.next, .int .i64 m.g.round, .slice A4 m.g.os.length c4, .int .i64 m.sp]) (by simp)).lt, rfl, Own.new_ _ _ _⟩
    | 19, ho =>
     cases ho
     simp only [fillA, Act.put, sA9, sB9, sC9] at hK ⊢
     obtain ⟨m', e1, e2, e3, e4, hf, hx, hm⟩ := hd 16 ⟨⟨16, .data⟩, by simp, rfl, rfl⟩
     change x 32 = _ at hx
     obtain ⟨gb, cs, db, hgb, hcs, ho⟩ := hd 18 ⟨⟨18, .data⟩, by simp, rfl, rfl⟩
     change x 6 = _ at db
     obtain ⟨E1, n1, rfl, _⟩ := hm.t.b
     obtain ⟨E2, n2, rfl, _⟩ := hm.t.f
     obtain ⟨E3, n3, rfl, _⟩ := hm.l
     obtain ⟨E4, n4, rfl, _⟩ := hm.o
     obtain ⟨cs⟩ := cs
     obtain ⟨k0, k1, k2, k3, k4, k5, k6, k7, k8, rfl⟩ := len_nine hcs
     obtain ⟨z0, z1, z2, z3, z4, z5, z6, z7, z8⟩ := cells9 ho
     obtain ⟨y0, y1, y2, y3, y4, y5, y6, y7, y8⟩ := free9 ho
     have hlo := ho.lt
     simp only [hx, db] at hK ⊢
     go_simp
     refine hK undef _ (tX_store (stS_set9 ho _ _ _ _ _ _ _ _ _)) (hC.store (by decide) (by omega) hgw (by intro e he; simp at he; subst he; show mb ≠ gb; omega) ho _ _ _ _ _ _ _ _ _) ⟨rfl, gb, m', _, _, _, _, db, hgb, hf, hm.oth (stS_set9 ho _ _ _ _ _ _ _ _ _).1 (by decide) (by decide) (by decide) (by decide), ho.set9 _ _ _ _ _ _ _ _ _⟩
    | 20, ho =>
     cases ho
     simp only [fillA, Act.put, sA9, sB9, sC9] at hK ⊢
     go_simp
     obtain ⟨vs, h1, h2⟩ := hd 17 ⟨⟨17, .data⟩, by simp, rfl, rfl⟩
     exact hK _ _ (tX_same (by decide)) (hC.same (by decide) (by decide)) ⟨vs, h1, h2⟩
    | _ + 21, ho => simp at ho
   intro D xa w5 hD hC hd
   obtain ⟨hdc, _⟩ := hC
   rw [cn_all (l := [10, 13]) (fun i hi => hD i (by simp at hi; simp; omega))] at hdc
   change DC w.heap.size w2 g (p + 2) _ _ _ _ _ _ _ at hdc
   obtain ⟨_, gb, m', e1, e2, e3, e4, db, hgb, hf, hmm, hob⟩ := hd 19 (by decide)
   change xa 6 = _ at db
   obtain ⟨ok, hx, hsz⟩ := hf
   change xa 16 = _ at hx
   obtain ⟨vs, h1, h2⟩ := hd 20 (by decide)
   have dO : xa 7 = .bool ok := tpl_get h1 h2 hx rfl
   simp only [fillA, Act.put, sA9, sB9, sC9, db, dO]
   clear hd h1 h2 hx hD
   have hn5 := own_gr HN2.out hdc.gr (by omega)
   have hox := hdc.own (b := mb) (t := 48) (cs := #[.slice A1 m.t.bs.length c1, .slice A2 m.t.fs.length c2, .slice A3 m.c.ls.length c3, .int .i64 m.c.hand, .int .i64 m.g.count, .int .i64 m.g.next, .int .i64 m.g.round, .slice A4 m.g.os.length c4, .int .i64 m.sp]) (by simp)
   have HB5 := Hd (hdc)
   cases ok with
   | false =>
    have HO := Hd hox
    clear hob hmm
    go_wp2
    go_roundw
    case rel => exact ⟨k + 1, m, _, _, _, _, p + 2, by omega, by omega, by simp, by omega, HO.out, HB5.out.mm, HZ.out, HB5.out.rd, HB5.out.gr⟩
    case measure => simp [intOf]; omega
   | true =>
    obtain ⟨E1, n1, rfl, _⟩ := hmm.t.b
    obtain ⟨E2, n2, rfl, _⟩ := hmm.t.f
    obtain ⟨E3, n3, rfl, _⟩ := hmm.l
    obtain ⟨E4, n4, rfl, _⟩ := hmm.o
    obtain ⟨p0b, p1b, p2b, p3b, p4b, p5b, p6b, p7b, p8b⟩ := cells9 hob
    obtain ⟨p0o, p1o, p2o, p3o, p4o, p5o, p6o, p7o, p8o⟩ := cells9 hox
    obtain ⟨w0o, w1o, w2o, w3o, w4o, w5o, w6o, w7o, w8o⟩ := free9 hox
    have hlo := hox.lt
    have hlb := hob.lt
    have HO := Hd (hox.set9 (.slice E1 m'.t.bs.length n1) (.slice E2 m'.t.fs.length n2) (.slice E3 m'.c.ls.length n3) (.int .i64 m'.c.hand) (.int .i64 m'.g.count) (.int .i64 m'.g.next) (.int .i64 m'.g.round) (.slice E4 m'.g.os.length n4) (.int .i64 m'.sp))
    have HM := Hd (hmm.far9 hox (.slice E1 m'.t.bs.length n1) (.slice E2 m'.t.fs.length n2) (.slice E3 m'.c.ls.length n3) (.int .i64 m'.c.hand) (.int .i64 m'.g.count) (.int .i64 m'.g.next) (.int .i64 m'.g.round) (.slice E4 m'.g.os.length n4) (.int .i64 m'.sp))
    have HZ5 := Hd (hsz rfl)
    clear hob hmm hsz hox
    go_wp2
    go_roundw
    case rel =>
     refine ⟨k + 1, m', _, _, _, _, p + 2, by omega, by omega, by simp, by omega, HO.out, HM.out, HZ5.out, ?_, ?_⟩
     ·repeat (refine rdr_set1 (by omega) ?_)
      exact HB5.out.rd
     ·repeat (refine g_set (by omega) ?_)
      exact HB5.out.gr
    case measure => simp [intOf]; omega
  ·obtain rfl : k = 5 := by omega
   have hn5 := own_gr HN2.out HDC.out.gr (by omega)
   have hox := HDC.out.own (b := mb) (t := 48) (cs := #[.slice A1 m.t.bs.length c1, .slice A2 m.t.fs.length c2, .slice A3 m.c.ls.length c3, .int .i64 m.c.hand, .int .i64 m.g.count, .int .i64 m.g.next, .int .i64 m.g.round, .slice A4 m.g.os.length c4, .int .i64 m.sp]) (by simp)
   obtain ⟨p0o, p1o, p2o, p3o, p4o, p5o, p6o, p7o, p8o⟩ := cells9 hox
   have hbr := bG HB2.out HDC.out.gr (by intro k hk; injection hk with hk; omega)
   have hBr := hbr.size
   go_wp2_with fail
   refine (l6Wrong_any w.heap.size g p 17 _ _ _ _ m wr HDC.out.rd (by omega) HDC.out.mm HZ.out (by omega) hBr).mono ?_
   rintro e w6 ⟨_, rfl, m', q1, q2, q3, q4, p6, rfl, hM6, hz6, hrd6, hp6, hgr6⟩
   clear p0o p1o p2o p3o p4o p5o p6o p7o p8o hox
   have ho6 := own_gr hn5 hgr6 (by omega)
   have hb6 := bG hbr hgr6 (by intro k hk; injection hk with hk; omega)
   clear hn5
   obtain ⟨E1, n1, rfl, _⟩ := hM6.t.b
   obtain ⟨E2, n2, rfl, _⟩ := hM6.t.f
   obtain ⟨E3, n3, rfl, _⟩ := hM6.l
   obtain ⟨E4, n4, rfl, _⟩ := hM6.o
   obtain ⟨r0x, r1x, r2x, r3x, r4x, r5x, r6x, r7x, r8x⟩ := cells9 ho6
   obtain ⟨z0x, z1x, z2x, z3x, z4x, z5x, z6x, z7x, z8x⟩ := free9 ho6
   have hlr := ho6.lt
   have o3 := ho6.set9 (.slice E1 m'.t.bs.length n1) (.slice E2 m'.t.fs.length n2) (.slice E3 m'.c.ls.length n3) (.int .i64 m'.c.hand) (.int .i64 m'.g.count) (.int .i64 m'.g.next) (.int .i64 m'.g.round) (.slice E4 m'.g.os.length n4) (.int .i64 m'.sp)
   have HM6 := Hd (hM6.far9 ho6 (.slice E1 m'.t.bs.length n1) (.slice E2 m'.t.fs.length n2) (.slice E3 m'.c.ls.length n3) (.int .i64 m'.c.hand) (.int .i64 m'.g.count) (.int .i64 m'.g.next) (.int .i64 m'.g.round) (.slice E4 m'.g.os.length n4) (.int .i64 m'.sp))
   have HO6 := Hd o3
   have HB6 := Hd hb6
   have HZ6 := Hd hz6
   clear hM6 hrd6 hgr6 ho6 hb6 o3 HDC hbr hz6
   go_wp2
   obtain ⟨p0t, p1t, p2t, p3t, p4t, p5t, p6t, p7t, p8t⟩ := cells9 HO6.out
   refine bodyPost_ret (v := .agg #[.slice E1 m'.t.bs.length n1, .slice E2 m'.t.fs.length n2, .slice E3 m'.c.ls.length n3, .int .i64 m'.c.hand, .int .i64 m'.g.count, .int .i64 m'.g.next, .int .i64 m'.g.round, .slice E4 m'.g.os.length n4, .int .i64 m'.sp]) (by simp [results, Tryz.results70, go_sem, p0t, p1t, p2t, p3t, p4t, p5t, p6t, p7t, p8t]) rfl ⟨_, rfl, m', _, _, _, _, rfl, HM6.out, HZ6.out, ?_⟩
   repeat (refine bS ?_ (by exact Nat.le_refl _))
   exact HB6.out
theorem fOK_none {t : Tab} {s p : Int} (h : fnd t.fs s p = none) : fOK t s p = false := by
 unfold fOK
 rw [fndI_none h]
 simp
theorem tak_gone {m x : Ma} {s p c : Int} (h : rgO (fun m k => takO m s (p + k)) (fun m k => takV m s (p + k)) m c = some x) :
  ∃ n : Nat, c = (n : Int) ∧ 1 ≤ n ∧ n ≤ 16 ∧ mav m = true ∧ mav x = true ∧ (∀ i : Nat, i < n → fOK x.t s (p + i) = false) ∧ (kys x.t).length + n = (kys m.t).length := by
 have hc : mav m = true ∧ 1 ≤ c ∧ c ≤ 16 := by
  apply Decidable.byContradiction
  intro hc
  rw [rgO_no hc] at h; cases h
 obtain ⟨hm, h1, h2⟩ := hc
 obtain ⟨n, rfl⟩ := Int.eq_ofNat_of_zero_le (show 0 ≤ c by omega)
 rw [rgO_yes hm (by omega) (by omega)] at h
 have Q := tak_state hm _ _ h
 refine ⟨n, rfl, by omega, by omega, hm, Q.v, fun i hi => fOK_none (Q.f i hi), ?_⟩
 rw [kys_count (mav_parts Q.v).1, kys_count (mav_parts hm).1]
 exact Q.n
end Go.Proofs.YtibpnlojlfcpmaaGreatDoor
