/- A part of the proofs of this seat: TV. -/
import Derived.Test.YtibpnlojlfcpmaaGreatDoorBEq
set_option linter.unusedVariables false
set_option linter.unusedSimpArgs false
set_option maxRecDepth 1000000
namespace Go.Proofs.YtibpnlojlfcpmaaGreatDoor
open Go.RowKit
set_option maxRecDepth 100000 in
set_option maxHeartbeats 4000000 in
theorem sTableValid_any (vb vf : Value) (t : Tab) (w : World) (hT : TaR w vb vf t) :
  Calls Tryz.prog 128 #[.agg #[vb, vf]] w fun r w' => r = .returned (.bool (tv t)) ∧ Below w.heap.size w w' := by
 have HT := Hd hT
 obtain ⟨Ab, cb, rfl, hbc, hbm, hB⟩ := hT.b
 obtain ⟨Af, cf, rfl, hfc, hfm, hF⟩ := hT.f
 have hbm2 : t.bs.length ≤ 9223372036854775807 := by unfold maxLen at hbm; omega
 have hfm2 : t.fs.length ≤ 9223372036854775807 := by unfold maxLen at hfm; omega
 have HF := Hd hF
 have hbx := Own.new_ w 40 #[.slice Ab t.bs.length cb, .slice Af t.fs.length cf]
 have hbz : Below w.heap.size w (w.alloc (.cells #[.slice Ab t.bs.length cb, .slice Af t.fs.length cf] 40)) := bA bR
 generalize hW : w.alloc (.cells #[.slice Ab t.bs.length cb, .slice Af t.fs.length cf] 40) = W0 at hbx hbz
 have q0 := hbx.cell_ 0 (v := .slice Ab t.bs.length cb) rfl
 have q1 := hbx.cell_ 1 (v := .slice Af t.fs.length cf) rfl
 have HBX := Hd hbx
 clear hB hF hbx hT hbm hfm
 by_cases h1 : t.fs.length < 1
 ·have g1 : (t.fs.length : Int) < 1 := by omega
  go_enter Tryz.func128, Tryz.ntmps128
  have HE : Hid (tv t = false) := tv_sz (by unfold tsz; simp; omega)
  go_wp2
  go_ret
  exact ⟨by rw [HE.out]; rfl, hbz⟩
 ·have g1 : ¬ (t.fs.length : Int) < 1 := by omega
  by_cases h2 : 16 < t.fs.length
  ·have g2 : (16 : Int) < (t.fs.length : Int) := by omega
   go_enter Tryz.func128, Tryz.ntmps128
   have HE : Hid (tv t = false) := tv_sz (by unfold tsz; simp; omega)
   go_wp2
   go_ret
   exact ⟨by rw [HE.out]; rfl, hbz⟩
  ·have g2 : ¬ (16 : Int) < (t.fs.length : Int) := by omega
   by_cases h3 : 1 ≤ t.bs.length ∧ t.bs.length ≤ 16
   case neg =>
    have g3 : (decide ((1 : Int) ≤ (t.bs.length : Int)) && decide ((t.bs.length : Int) ≤ 16)) = false := by
     simp; omega
    go_enter Tryz.func128, Tryz.ntmps128
    go_wp2_with fail
    refine (l2Buckets_any _ _).mono ?_
    rintro e w1 ⟨rfl, rfl⟩
    rw [g3]
    have HE : Hid (tv t = false) := tv_sz (by unfold tsz; simp; omega)
    go_wp2
    go_ret
    exact ⟨by rw [HE.out]; rfl, hbz⟩
   case pos =>
    have g3 : (decide ((1 : Int) ≤ (t.bs.length : Int)) && decide ((t.bs.length : Int) ≤ 16)) = true := by
     simp; omega
    have HSZ : Hid (tsz t = true) := by show _ = _; unfold tsz; simp; omega
    go_enter Tryz.func128, Tryz.ntmps128
    go_wp2_with fail
    refine (l2Buckets_any _ _).mono ?_
    rintro e w1 ⟨rfl, rfl⟩
    rw [g3]
    go_wp2
    clear q0 q1
    go_loopw [3, 4] (fun sv u wr => ∃ k : Nat, k ≤ t.fs.length ∧ u = .int .i64 k ∧ sv = .int .i64 (nus t.fs k) ∧ Hid (frs t.fs k = true) ∧ Own wr w.heap.size 40 #[.slice Ab t.bs.length cb, .slice Af t.fs.length cf] ∧ Below w.heap.size w wr) (fun _ u _ => t.fs.length - (intOf u).toNat)
    case atStart => exact ⟨0, by omega, rfl, rfl, rfl, HBX.out, hbz⟩
    case round =>
     clear hbz
     obtain ⟨k, hk, rfl, rfl, hfr, hbox, hbz⟩ := hrel
     have q0 := hbox.cell_ 0 (v := .slice Ab t.bs.length cb) rfl
     have q1 := hbox.cell_ 1 (v := .slice Af t.fs.length cf) rfl
     have HBOX := Hd hbox
     have hbl := hbox.lt
     clear hbox
     by_cases hlt : k < t.fs.length
     ·obtain ⟨f, ef⟩ : ∃ f, t.fs[k]? = some f := ⟨_, List.getElem?_eq_getElem hlt⟩
      obtain ⟨b2, o2, rfl, hb2, d0, d1, d2, d3, d4⟩ := (HF.out.below hbz).fr ef
      go_wp2_with fail
      refine (l3Frame_any f _).mono ?_
      rintro e w3 ⟨rfl, hb3'⟩
      have hbz3 := bT hbz hb3'
      have HBX3 := Hd (HBOX.out.below hb3')
      have hbl3 := HBX3.out.lt
      clear d0 d1 d2 d3 d4 q0 q1 hbz hbl
      have hbz := hbz3
      clear hbz3
      have q0 := HBX3.out.cell_ 0 (v := .slice Ab t.bs.length cb) rfl
      have q1 := HBX3.out.cell_ 1 (v := .slice (some ⟨b2, o2, none⟩) t.fs.length cf) rfl
      obtain ⟨b2', o2', e2, hb2', d0, d1, d2, d3, d4⟩ := (HF.out.below hbz).fr ef
      injection e2 with e2
      injection e2 with e2 e3
      subst e2 e3
      have HD0 := Hd d0
      by_cases hok : frok f = true
      case neg =>
       have hok := bool_ff hok
       rw [hok]
       have HE : Hid (tv t = false) := tv_fr ef hok
       go_wp2
       go_ret
       exact ⟨by rw [HE.out]; rfl, hbz⟩
      case pos =>
       rw [hok]
       have HN := Hd (nus_step ef)
       have hnk := nus_le t.fs k
       generalize nus t.fs k = F at *
       have HK : Hid ((f.used = true → ∀ (r : Nat) (g : Fr), r < k → t.fs[r]? = some g → g.used = true → ¬ (g.s, g.p) = (f.s, f.p)) → frs t.fs (k + 1) = true) := fun h => frs_step (f := f) hfr.out ef hok h
       have EF := Hd ef
       cases hu : f.used with
       | false =>
        have HN2 : Hid (nus t.fs (k + 1) = F) := by have h := HN.out; rw [hu] at h; exact h
        rw [hu] at d0
        clear ef hok
        go_wp2
        clear q0 q1 d0 d1 d2 d3 d4
        go_loopw [5] (fun u wi => ∃ r : Nat, r ≤ k ∧ u = .int .i64 r ∧ Below w3.heap.size w3 wi) (fun u _ => k - (intOf u).toNat)
        case atStart => exact ⟨0, by omega, rfl, bR⟩
        case round =>
         obtain ⟨r, hr, rfl, hbi⟩ := hrel
         have hboxi := HBX3.out.below hbi
         have q0 := hboxi.cell_ 0 (v := .slice Ab t.bs.length cb) rfl
         have q1 := hboxi.cell_ 1 (v := .slice (some ⟨b2, o2, none⟩) t.fs.length cf) rfl
         have hbli := hboxi.lt
         clear hboxi
         obtain ⟨b3, o3, e3, hb3, d0, d1, d2, d3, d4⟩ := (HF.out.below (bT hbz hbi)).fr EF.out
         injection e3 with e3
         injection e3 with e3 e5
         subst e3 e5
         rw [hu] at d0
         by_cases hlr : r < k
         ·go_wp2
          go_quiet (fail)
          go_wp2
          go_roundw
          case rel => exact ⟨r + 1, by omega, by go_num, bDN hbi⟩
          case measure => simp [intOf]; omega
         ·go_wp2
          go_roundw
          case rel => exact ⟨k + 1, by omega, by go_num, by rw [HN2.out], HK.out (fun h => by rw [hu] at h; cases h), HBX3.out.below hbi, bT hbz hbi⟩
          case measure => simp [intOf]; omega
       | true =>
        have HN2 : Hid (nus t.fs (k + 1) = F + 1) := by have h := HN.out; rw [hu] at h; exact h
        rw [hu] at d0
        clear ef hok
        go_wp2
        clear q0 q1 d0 d1 d2 d3 d4
        go_loopw [5] (fun u wi => ∃ r : Nat, r ≤ k ∧ u = .int .i64 r ∧ Hid (∀ (j : Nat) (g : Fr), j < r → t.fs[j]? = some g → g.used = true → ¬ (g.s, g.p) = (f.s, f.p)) ∧ Below w3.heap.size w3 wi) (fun u _ => k - (intOf u).toNat)
        case atStart => exact ⟨0, by omega, rfl, (fun j g h => absurd h (by omega)), bR⟩
        case round =>
         obtain ⟨r, hr, rfl, hdup, hbi⟩ := hrel
         have hboxi := HBX3.out.below hbi
         have q0 := hboxi.cell_ 0 (v := .slice Ab t.bs.length cb) rfl
         have q1 := hboxi.cell_ 1 (v := .slice (some ⟨b2, o2, none⟩) t.fs.length cf) rfl
         have hbli := hboxi.lt
         clear hboxi
         obtain ⟨b3, o3, e3, hb3, d0, d1, d2, d3, d4⟩ := (HF.out.below (bT hbz hbi)).fr EF.out
         injection e3 with e3
         injection e3 with e3 e5
         subst e3 e5
         rw [hu] at d0
         by_cases hlr : r < k
         ·obtain ⟨g, eg⟩ : ∃ g, t.fs[r]? = some g := ⟨_, List.getElem?_eq_getElem (by omega)⟩
          obtain ⟨b4, o4, e4, hb4, x0, x1, x2, x3, x4⟩ := (HF.out.below (bT hbz hbi)).fr eg
          injection e4 with e4
          injection e4 with e4 e5
          subst e4 e5
          have he := fun W => eql_key g.s g.p f.s f.p W
          have EG := Hd eg
          clear eg
          cases hug : g.used with
          | false =>
           rw [hug] at x0
           have HD2 : Hid (∀ (j : Nat) (g' : Fr), j < r + 1 → t.fs[j]? = some g' → g'.used = true → ¬ (g'.s, g'.p) = (f.s, f.p)) := fun j g' hj e hgu => by
            rcases Nat.lt_or_ge j r with h | h
            ·exact hdup.out j g' h e hgu
            ·obtain rfl : j = r := by omega
             rw [EG.out] at e
             injection e with e
             rw [← e, hug] at hgu; cases hgu
           go_wp2
           go_quiet (fail)
           go_wp2
           go_roundw
           case rel => exact ⟨r + 1, by omega, by go_num, HD2, bDN hbi⟩
           case measure => simp [intOf]; omega
          | true =>
           rw [hug] at x0
           by_cases hkk : (g.s, g.p) = (f.s, f.p)
           ·have hq : keq g.s g.p f.s f.p = true := keq_true hkk
            have HE : Hid (tv t = false) := tv_dup hlr EG.out EF.out hug hu hkk
            clear hkk
            go_wp2
            go_quiet (fail)
            go_wp2
            go_ret
            exact ⟨by rw [HE.out]; rfl, bT hbz (bDN hbi)⟩
           ·have hq : keq g.s g.p f.s f.p = false := keq_false hkk
            have HD2 : Hid (∀ (j : Nat) (g' : Fr), j < r + 1 → t.fs[j]? = some g' → g'.used = true → ¬ (g'.s, g'.p) = (f.s, f.p)) := fun j g' hj e hgu => by
             rcases Nat.lt_or_ge j r with h | h
             ·exact hdup.out j g' h e hgu
             ·obtain rfl : j = r := by omega
              rw [EG.out] at e
              injection e with e
              rw [← e]; exact hkk
            clear hkk
            go_wp2
            go_quiet (fail)
            go_wp2
            go_roundw
            case rel => exact ⟨r + 1, by omega, by go_num, HD2, bDN hbi⟩
            case measure => simp [intOf]; omega
         ·obtain rfl : r = k := by omega
          go_wp2
          go_roundw
          case rel => exact ⟨r + 1, by omega, by go_num, by rw [HN2.out]; rfl, HK.out (fun _ => hdup.out), HBX3.out.below hbi, bT hbz hbi⟩
          case measure => simp [intOf]; omega
     ·obtain rfl : k = t.fs.length := by omega
      have hnn := nus_le t.fs t.fs.length
      have HFR := Hd hfr.out
      have HBOX1 := HBOX
      have hbz1 := hbz
      clear hlt hk
      generalize hU : nus t.fs t.fs.length = U at *
      go_wp2
      clear q0 q1 hbl
      go_loopw [3, 6] (fun sv u wr => ∃ b : Nat, b ≤ t.bs.length ∧ u = .int .i64 b ∧ sv = .int .i64 ((U : Int) - (bsum t b : Nat)) ∧ bsum t b ≤ b * 16 ∧ Hid (boks t b = true) ∧ Own wr w.heap.size 40 #[.slice Ab t.bs.length cb, .slice Af t.fs.length cf] ∧ Below w.heap.size w wr) (fun _ u _ => t.bs.length - (intOf u).toNat)
      case atStart => exact ⟨0, by omega, rfl, by simp [bsum], by simp [bsum], rfl, HBOX1.out, hbz1⟩
      case round =>
       clear hbz hbz1
       obtain ⟨b, hb, rfl, rfl, hsum, hbo, hbox, hbz⟩ := hrel
       have q0 := hbox.cell_ 0 (v := .slice Ab t.bs.length cb) rfl
       have q1 := hbox.cell_ 1 (v := .slice Af t.fs.length cf) rfl
       have HBOX := Hd hbox
       have hbl := hbox.lt
       clear hbox
       by_cases hlt : b < t.bs.length
       ·go_wp2_with fail
        refine (l3Chain_any _ _ t b _ (HT.out.now hbz) hlt (by omega)).mono ?_
        rintro e w3 ⟨v, rfl, hsl, hb3'⟩
        have HBX3 := Hd (HBOX.out.below hb3')
        have hbz3 := bT hbz hb3'
        clear q0 q1 hbz hbl
        have hbz := hbz3
        clear hbz3
        cases hch : bch t b with
        | none =>
         simp only [Option.isSome_none]
         have HE : Hid (tv t = false) := tv_bok (bok_none hch) hlt
         go_wp2
         go_ret
         exact ⟨by rw [HE.out]; rfl, hbz⟩
        | some ch =>
         simp only [Option.isSome_some]
         obtain ⟨Al, cl, rfl, hlc, hlm, hL⟩ := hsl ch hch
         rw [ints_length] at *
         have HL := Hd hL
         have HCH := Hd hch
         have hcl := (show ch.length ≤ t.fs.length from by
          obtain ⟨x, _, ec⟩ := bch_some hch
          exact chn_len ec)
         have hsb := bsum_step hch
         clear hsl hL hch
         go_wp2
         go_loopw [9] (fun u wi => ∃ r : Nat, r ≤ ch.length ∧ u = .int .i64 r ∧ Hid (∀ (m j : Nat), m < r → ch[m]? = some j → ∃ f : Fr, t.fs[j]? = some f ∧ hsh f.s f.p t.bs.length = b) ∧ Below w3.heap.size w3 wi) (fun u _ => ch.length - (intOf u).toNat)
         case atStart => exact ⟨0, by omega, rfl, (fun m j h => absurd h (by omega)), bR⟩
         case round =>
          obtain ⟨r, hr, rfl, hacc, hbi⟩ := hrel
          have hboxi := HBX3.out.below hbi
          have q0 := hboxi.cell_ 0 (v := .slice Ab t.bs.length cb) rfl
          have q1 := hboxi.cell_ 1 (v := .slice Af t.fs.length cf) rfl
          have hbli := hboxi.lt
          clear hboxi
          by_cases hlr : r < ch.length
          ·obtain ⟨j, ej⟩ : ∃ j, ch[r]? = some j := ⟨_, List.getElem?_eq_getElem hlr⟩
           obtain ⟨f, ef, huf⟩ := bch_mem HCH.out j (List.mem_of_getElem? ej)
           obtain ⟨hjl, _⟩ := List.getElem?_eq_some_iff.1 ef
           obtain ⟨b5, o5, hAl, hb5, y0⟩ := (HL.out.now (Nat.le_refl _) hbi).i1 (ints_get ej)
           obtain ⟨b4, o4, hAf, hb4, x0, x1, x2, x3, x4⟩ := (HF.out.below (bT hbz hbi)).fr ef
           have hkv : kval (f.s, f.p) = true := by
            obtain ⟨⟨g, eg, hg⟩, _⟩ := frs_at HFR.out hjl
            rw [ef] at eg
            injection eg with eg
            subst eg
            unfold frok at hg
            rw [huf] at hg
            simp only [if_true, Bool.and_eq_true] at hg
            exact hg.1
           have HH := fun W => l2Hash_any f.s f.p t.bs.length W hkv (by omega)
           have HHH := Hd HH
           have HACC : Hid (hsh f.s f.p t.bs.length = b → ∀ (m j : Nat), m < r + 1 → ch[m]? = some j → ∃ f : Fr, t.fs[j]? = some f ∧ hsh f.s f.p t.bs.length = b) := fun hh m j' hm e => by
            rcases Nat.lt_or_ge m r with h | h
            ·exact hacc.out m j' h e
            ·obtain rfl : m = r := by omega
             rw [ej] at e
             injection e with e
             rw [← e]
             exact ⟨f, ef, hh⟩
           have HBAD : Hid (hsh f.s f.p t.bs.length ≠ b → tv t = false) := fun hh => tv_bok (bok_false HCH.out (List.mem_of_getElem? ej) ef hh) hlt
           have hj2 : (j : Int) < (t.fs.length : Int) := by omega
           subst hAl hAf
           clear HH ef ej hkv huf
           generalize hsh f.s f.p t.bs.length = hv at HHH HACC HBAD
           have z0 := xcell (w := wr) q0 (by simp; omega)
           have z1 := xcell (w := wr) q1 (by simp; omega)
           have z2 := xcell (w := wr) y0 (by simp; omega)
           have z3 := xcell (w := wr) x1 (by have := (bT hbz hbi).size; show b4 < _; omega)
           have z4 := xcell (w := wr) x2 (by have := (bT hbz hbi).size; show b4 < _; omega)
           by_cases hh : hv = b
           ·have HAC2 := Hd (HACC.out hh)
            subst hh
            clear HACC
            go_wp2
            refine wp_region_ext (by kernel_rfl) (by kernel_rfl) ?_
            repeat (go_big_quiet_step ((go_at_call 135; exact ext_call (HHH.out _))))
            refine wpQuiet_nil ?_
            intro _ hw'
            obtain ⟨⟨wq, hq⟩, hw''⟩ := hw'
            subst hw''
            try dsimp only
            go_wp2
            go_roundw
            case rel => exact ⟨r + 1, by omega, by go_num, HAC2.out, bT hbi hq⟩
            case measure => simp [intOf]; omega
           ·have g5 : (hv == (b : Int)) = false := by rw [beq_eq_false_iff_ne]; exact hh
            have HE : Hid (tv t = false) := HBAD.out hh
            go_wp2
            refine wp_region_ext (by kernel_rfl) (by kernel_rfl) ?_
            repeat (go_big_quiet_step ((go_at_call 135; exact ext_call (HHH.out _))))
            refine wpQuiet_nil ?_
            intro _ hw'
            obtain ⟨⟨wq, hq⟩, hw''⟩ := hw'
            subst hw''
            try dsimp only
            go_wp2
            go_ret
            exact ⟨by rw [HE.out]; rfl, bT hbz (bT hbi hq)⟩
          ·obtain rfl : r = ch.length := by omega
           have hB2 : Hid (boks t (b + 1) = true) := boks_step hbo.out HCH.out (fun m j e => hacc.out m j (List.getElem?_eq_some_iff.1 e).1 e)
           have hs2 : bsum t (b + 1) ≤ (b + 1) * 16 := by omega
           have HS2 := Hd hsb
           clear hsb
           go_wp2
           go_roundw
           case rel => exact ⟨b + 1, by omega, by go_num, by rw [HS2.out]; congr 1; omega, hs2, hB2, HBX3.out.below hbi, bT hbz hbi⟩
           case measure => simp [intOf]; omega
       ·obtain rfl : b = t.bs.length := by omega
        have HE : Hid (tv t = decide (bsum t t.bs.length = nus t.fs t.fs.length)) := tv_end HSZ.out HFR.out hbo.out
        rw [hU] at HE
        generalize bsum t t.bs.length = S at *
        by_cases hSU : S = U
        ·have HE2 : Hid (tv t = true) := by show _ = _; rw [HE.out, decide_eq_true hSU]
         have g5 : ((U : Int) - (S : Int) == 0) = true := by rw [beq_iff_eq]; omega
         go_wp2
         go_ret
         exact ⟨by rw [HE2.out]; rfl, hbz⟩
        ·have HE2 : Hid (tv t = false) := by show _ = _; rw [HE.out, decide_eq_false hSU]
         have g5 : ((U : Int) - (S : Int) == 0) = false := by rw [beq_eq_false_iff_ne]; omega
         go_wp2
         go_ret
         exact ⟨by rw [HE2.out]; rfl, hbz⟩
end Go.Proofs.YtibpnlojlfcpmaaGreatDoor
