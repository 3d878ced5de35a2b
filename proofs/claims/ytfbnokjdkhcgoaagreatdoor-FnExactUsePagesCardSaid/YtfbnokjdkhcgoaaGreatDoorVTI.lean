/- A part of the proofs of this seat: TI. -/
import Derived.Deep.LoopGhost
import Derived.Test.YtfbnokjdkhcgoaaGreatDoorVEq
set_option linter.unusedVariables false
set_option linter.unusedSimpArgs false
set_option maxRecDepth 1000000
namespace Go.Proofs.YtfbnokjdkhcgoaaGreatDoor
open Go.RowKit Go.Maps Go.WideMaps
structure Free (w : World) : Prop where
 lt : 0 < w.heap.size
 c0 : w.cell? ⟨0, 0, none⟩ = some (.bool false)
 c1 : w.cell? ⟨0, 1, none⟩ = some (.int .i64 0)
 c2 : w.cell? ⟨0, 2, none⟩ = some (.int .i64 0)
 c3 : w.cell? ⟨0, 3, none⟩ = some (.int .i64 0)
 c4 : w.cell? ⟨0, 4, none⟩ = some (.int .i64 (-1))
theorem Free.now {w w' : World} (h : Free w) (hb : Below w.heap.size w w') : Free w' :=
 ⟨Nat.lt_of_lt_of_le h.lt hb.size, (hb.cell (p := ⟨0, 0, none⟩) h.lt).trans h.c0, (hb.cell (p := ⟨0, 1, none⟩) h.lt).trans h.c1, (hb.cell (p := ⟨0, 2, none⟩) h.lt).trans h.c2, (hb.cell (p := ⟨0, 3, none⟩) h.lt).trans h.c3, (hb.cell (p := ⟨0, 4, none⟩) h.lt).trans h.c4⟩
theorem map_now {k : TypeId} {R : Value → Option (DataW Unit × List MemPlace)} {w w' : World} {b n : Nat} {D : DataW Unit} (h : w.ownsMap Tryz.prog k R b n D) (hb : Below w.heap.size w w') : w'.ownsMap Tryz.prog k R b n D :=
 h.kept (row := none) ⟨hb.os, hb.tape, hb.output, hb.size, fun i hi _ => hb.block i hi⟩ (by simp)
def KSt (fs : List Fr) (k : Nat) (S : List Key) : Prop := S.length = nus fs k ∧ ∀ a, a ∈ S ↔ ∃ (r : Nat) (g : Fr), r < k ∧ fs[r]? = some g ∧ g.used = true ∧ (g.s, g.p) = a
set_option maxHeartbeats 4000000 in
theorem TableValid_any (vb vf : Value) (t : Tab) (w : World) (hT : TaR w vb vf t) (hfree : Free w) :
    Calls Tryz.prog 32 #[.agg #[vb, vf]] w fun r w' => r = .returned (.bool (tv t)) ∧ Below w.heap.size w w' := by
  obtain ⟨Ab, cb, rfl, hbc, hbm, hB⟩ := hT.b
  obtain ⟨Af, cf, rfl, hfc, hfm, hF⟩ := hT.f
  have hbm2 : t.bs.length ≤ 9223372036854775807 := by unfold maxLen at hbm; omega
  have hfm2 : t.fs.length ≤ 9223372036854775807 := by unfold maxLen at hfm; omega
  have HF := Hd hF
  have HBS := Hd hB
  have HFREE := Hd hfree
  have hmm := @run_makeMap Tryz.prog
  have hbx := Own.new_ w 26 #[.slice Ab t.bs.length cb, .slice Af t.fs.length cf]
  have hbz : Below w.heap.size w (w.alloc (.cells #[.slice Ab t.bs.length cb, .slice Af t.fs.length cf] 26)) := bA bR
  have hsz0 : (w.alloc (.cells #[.slice Ab t.bs.length cb, .slice Af t.fs.length cf] 26)).heap.size = w.heap.size + 1 := by simp
  generalize hW : w.alloc (.cells #[.slice Ab t.bs.length cb, .slice Af t.fs.length cf] 26) = W0 at hbx hbz hsz0
  have q0 := hbx.cell_ 0 (v := .slice Ab t.bs.length cb) rfl
  have q1 := hbx.cell_ 1 (v := .slice Af t.fs.length cf) rfl
  have HBX := Hd hbx
  clear hB hF hbx hT hbm hfm hfree
  by_cases h1 : t.fs.length < 1
  · have g1 : (t.fs.length : Int) < 1 := by omega
    go_enter Tryz.func32, Tryz.ntmps32
    have HE : Hid (tv t = false) := tv_sz (by unfold tsz; simp; omega)
    go_wp2
    go_ret
    exact ⟨by rw [HE.out]; rfl, hbz⟩
  · have g1 : ¬ (t.fs.length : Int) < 1 := by omega
    by_cases h2 : 16 < t.fs.length
    · have g2 : (16 : Int) < (t.fs.length : Int) := by omega
      go_enter Tryz.func32, Tryz.ntmps32
      have HE : Hid (tv t = false) := tv_sz (by unfold tsz; simp; omega)
      go_wp2
      go_ret
      exact ⟨by rw [HE.out]; rfl, hbz⟩
    · have g2 : ¬ (16 : Int) < (t.fs.length : Int) := by omega
      by_cases h3 : 1 ≤ t.bs.length ∧ t.bs.length ≤ 16
      case neg =>
        have g3 : (decide ((1 : Int) ≤ (t.bs.length : Int)) && decide ((t.bs.length : Int) ≤ 16)) = false := by
          simp; omega
        go_enter Tryz.func32, Tryz.ntmps32
        go_wp2_with fail
        refine (bucketsValid_any _ _).mono ?_
        rintro e w1 ⟨rfl, rfl⟩
        rw [g3]
        have HE : Hid (tv t = false) := tv_sz (by unfold tsz; simp; omega)
        go_wp2
        go_ret
        exact ⟨by rw [HE.out]; rfl, hbz⟩
      case pos =>
        have g3 : (decide ((1 : Int) ≤ (t.bs.length : Int)) && decide ((t.bs.length : Int) ≤ 16)) = true := by
          simp; omega
        have HSZ : Hid (tsz t = true) := by show _ = _; unfold tsz; simp; omega
        go_enter Tryz.func32, Tryz.ntmps32
        go_wp2_with fail
        refine (bucketsValid_any _ _).mono ?_
        rintro e w1 ⟨rfl, rfl⟩
        rw [g3]
        go_wp2
        clear q0 q1
        go_loopw [30] (fun u wr => ∃ (k : Nat) (S : List Key) (D : DataW Unit), k ≤ t.fs.length ∧ u = .int .i64 k ∧ Hid (frs t.fs k = true) ∧ Hid (KSt t.fs k S) ∧ SetK S D ∧ wr.ownsMap Tryz.prog 54 (plainElem Tryz.prog 4) (w.heap.size + 1) k D ∧ Own wr w.heap.size 26 #[.slice Ab t.bs.length cb, .slice Af t.fs.length cf] ∧ Below w.heap.size w wr) (fun u _ => t.fs.length - (intOf u).toNat)
        case atStart => exact ⟨0, [], _, by omega, rfl, rfl, ⟨rfl, fun a => ⟨fun h => (by cases h), fun ⟨r, g, h, _⟩ => absurd h (by omega)⟩⟩, SetD.nil_, (by rw [← hsz0]; exact World.ownsMap_made _ _ _ _), HBX.out.alloc, bA hbz⟩
        case round =>
          clear hbz
          obtain ⟨k, S, D, hk, rfl, hfr, hks, hsd, hmap, hbox, hbz⟩ := hrel
          have q0 := hbox.cell_ 0 (v := .slice Ab t.bs.length cb) rfl
          have q1 := hbox.cell_ 1 (v := .slice Af t.fs.length cf) rfl
          have HBOX := Hd hbox
          have hbl := hbox.lt
          clear hbox
          by_cases hlt : k < t.fs.length
          · obtain ⟨f, ef⟩ : ∃ f, t.fs[k]? = some f := ⟨_, List.getElem?_eq_getElem hlt⟩
            obtain ⟨b2, o2, rfl, hb2, d0, d1, d2, d3, d4⟩ := (HF.out.below hbz).fr ef
            have hb2w : b2 < wr.heap.size := by have := hbz.size; omega
            have HMAP := Hd hmap
            have EF := Hd ef
            clear hmap
            have FR := HFREE.out.now hbz
            obtain ⟨z0, z1, z2, z3, z4, z5⟩ := FR
            cases hu : f.used with
            | false =>
              rw [hu] at d0
              have hft : frok f = decide (f = frz) := by unfold frok; rw [hu]; rfl
              have he : ∀ W, (binOp .neq 80 (.agg #[.bool false, .int .i64 f.s, .int .i64 f.p, .int .i64 f.r, .int .i64 f.n]) (.agg #[.bool false, .int .i64 0, .int .i64 0, .int .i64 0, .int .i64 (-1)])).run Tryz.prog W = .ok (.bool (!frok f)) W := fun W => by
                have h := neq_fr f frz W
                rw [← hft] at h
                simp only [frV, hu, frz] at h
                exact h
              by_cases hok : frok f = true
              · rw [hok] at he
                have HK := Hd (frs_step (f := f) hfr.out ef hok (fun h => by rw [hu] at h; cases h))
                have HN : Hid (nus t.fs (k + 1) = nus t.fs k) := by show _ = _; rw [nus_step ef, hu]; rfl
                have HKS : Hid (KSt t.fs (k + 1) S) := ⟨by rw [HN.out]; exact hks.out.1, fun a => ⟨fun h => (let ⟨r, g, h1, h2⟩ := (hks.out.2 a).1 h; ⟨r, g, by omega, h2⟩), fun ⟨r, g, h1, h2, h3, h4⟩ => (hks.out.2 a).2 (by
                  rcases Nat.lt_or_ge r k with h | h
                  · exact ⟨r, g, h, h2, h3, h4⟩
                  · obtain rfl : r = k := by omega
                    rw [ef] at h2
                    injection h2 with h2
                    rw [← h2, hu] at h3; cases h3)⟩⟩
                go_wp2
                go_roundw
                case rel => exact ⟨k + 1, S, D, by omega, by go_num, HK, HKS, hsd, (HMAP.out.alloc _).mono (by omega), HBOX.out.alloc, bA hbz⟩
                case measure => simp [intOf]; omega
              · have hok := bool_ff hok
                rw [hok] at he
                have HE : Hid (tv t = false) := tv_fr ef hok
                go_wp2
                go_ret
                exact ⟨by rw [HE.out]; rfl, bA hbz⟩
            | true =>
              rw [hu] at d0
              go_wp2_with fail
              refine (keyValid_any _ _ _).mono ?_
              rintro e w3 ⟨rfl, hb3'⟩
              obtain ⟨ob, hb3⟩ := one_box hb3'
              have y0 := ob.cell_ 0 (v := .bool true) rfl
              have y1 := ob.cell_ 1 (v := .int .i64 f.s) rfl
              have y2 := ob.cell_ 2 (v := .int .i64 f.p) rfl
              have y3 := ob.cell_ 3 (v := .int .i64 f.r) rfl
              have hol := ob.lt
              have HMAP3 := Hd ((HMAP.out.alloc (.cells #[.bool true, .int .i64 f.s, .int .i64 f.p, .int .i64 f.r, .int .i64 f.n] 80)).kept (row := none) ⟨hb3'.os, hb3'.tape, hb3'.output, hb3'.size, fun i hi _ => hb3'.block i hi⟩ (by simp))
              have HBOX3 := Hd (HBOX.out.below hb3)
              have hbz3 := bT hbz hb3
              clear ob hb3' q0 q1 d0 d1 d2 d3 d4 z0 z1 z2 z3 z4 z5 hbz hbl
              have hbz := hbz3
              clear hbz3
              have hfk : frok f = (kval (f.s, f.p) && inR f.r 8) := by unfold frok; rw [hu]; rfl
              by_cases hkv : kval (f.s, f.p) = true
              case neg =>
                have hkv := bool_ff hkv
                rw [hkv]
                have HE : Hid (tv t = false) := tv_fr ef (by rw [hfk, hkv]; rfl)
                go_wp2
                go_ret
                exact ⟨by rw [HE.out]; rfl, hbz⟩
              case pos =>
                rw [hkv]
                by_cases hrr : inR f.r 8 = true
                case neg =>
                  have hrr := bool_ff hrr
                  have HE : Hid (tv t = false) := tv_fr ef (by rw [hfk, hrr]; simp)
                  go_wp2_with (go_at_call 38; refine (RightsValid_any _ _).mono ?_; rintro e w' ⟨rfl, rfl⟩)
                  go_ret
                  exact ⟨by rw [HE.out]; rfl, hbz⟩
                case pos =>
                  have hok : frok f = true := by rw [hfk, hkv, hrr]; rfl
                  have hkk : kok (f.s, f.p) := kval_wf hkv
                  have hlook := setk_look HMAP3.out hsd hkk
                  by_cases hin : (f.s, f.p) ∈ S
                  · rw [decide_eq_true hin] at hlook
                    have HE : Hid (tv t = false) := by
                      obtain ⟨r, g, h5, h6, h7, h8⟩ := (hks.out.2 _).1 hin
                      exact tv_dup h5 h6 ef h7 hu h8
                    go_wp2_with (go_at_call 38; refine (RightsValid_any _ _).mono ?_; rintro e w' ⟨rfl, rfl⟩)
                    go_ret
                    exact ⟨by rw [HE.out]; rfl, hbz⟩
                  · rw [decide_eq_false hin] at hlook
                    have HK := Hd (frs_step (f := f) hfr.out ef hok (fun _ r g h1 h2 h3 h4 => hin ((hks.out.2 _).2 ⟨r, g, h1, h2, h3, h4⟩)))
                    have HN : Hid (nus t.fs (k + 1) = nus t.fs k + 1) := by show _ = _; rw [nus_step ef, hu]; rfl
                    have HKS : Hid (KSt t.fs (k + 1) (S ++ [(f.s, f.p)])) := ⟨by rw [HN.out, List.length_append, hks.out.1]; rfl, fun a => by
                      rw [List.mem_append, List.mem_singleton, hks.out.2 a]
                      constructor
                      · rintro (⟨r, g, h1, h2⟩ | rfl)
                        · exact ⟨r, g, by omega, h2⟩
                        · exact ⟨k, f, by omega, ef, hu, rfl⟩
                      · rintro ⟨r, g, h1, h2, h3, h4⟩
                        rcases Nat.lt_or_ge r k with h | h
                        · exact .inl ⟨r, g, h, h2, h3, h4⟩
                        · obtain rfl : r = k := by omega
                          rw [ef] at h2
                          injection h2 with h2
                          exact .inr (by rw [← h4, ← h2])⟩
                    have HNEW := Hd (setk_add hsd hkk hin)
                    have HKEY := Hd (key_of hkk.1 hkk.2)
                    clear ef hok hfk hin hkk hsd hks hfr
                    go_wp2_with (first
                      | (go_at_call 38; refine (RightsValid_any _ _).mono ?_; rintro e w' ⟨rfl, rfl⟩)
                      | (at_mapUpdate; refine wpList_mapUpdate_own _ rfl _ _ _ 120 rfl 54 4 klaw Tryz.underlying120 (plainElem (H := Unit) Tryz.prog 4) (w.heap.size + 1) k _ rfl HMAP3.out (by unfold maxLen; omega) _ _ _ rfl rfl HKEY.out _ [] (plainElem_bool Tryz.underlying4 true) ?_; intro w4 hown4 hgrow4)
                      | go_in)
                    go_roundw
                    case rel => exact ⟨k + 1, _, _, by omega, by go_num, HK, HKS, HNEW.out, hown4, own_other HBOX3.out hgrow4 (by simp), bG hbz hgrow4 (by intro q hq; injection hq with hq; omega)⟩
                    case measure => simp [intOf]; omega
          · obtain rfl : k = t.fs.length := by omega
            have HFR := Hd hfr.out
            have HBOX1 := HBOX
            have hbz1 := hbz
            have hKS := hks.out.1
            have hDS := hsd.siz
            have hnn := nus_le t.fs t.fs.length
            have HMAPK := Hd (hmap.alloc (.map #[] 0))
            have HM0 : Hid ((wr.alloc (.map #[] 0)).ownsMap Tryz.prog 3 (plainElem (H := Unit) Tryz.prog 4) wr.heap.size 0 (.map [])) := World.ownsMap_made _ _ _ _
            have hgm := hmap.lt
            have HSZK : Hid (size D = nus t.fs t.fs.length) := by show _ = _; rw [hDS, hKS]
            clear hlt hk hks hsd hmap hKS hDS
            generalize hgme : wr.heap.size = gm at *
            go_wp2
            clear q0 q1 hbl
            have hb00 : Below w.heap.size w (wr.alloc (.map #[] 0)) := bA hbz1
            have hbx00 := Hd (HBOX1.out.alloc (o := .map #[] 0))
            generalize wr.alloc (.map #[] 0) = W5 at HMAPK HM0 hb00 hbx00 ⊢
            clear hbz hbz1 hW HBX HBOX
            go_loopw [75] (fun u wr => ∃ (b : Nat) (M : List Int) (D2 : DataW Unit), b ≤ t.bs.length ∧ u = .int .i64 b ∧ Hid (boks t b = true) ∧ Hid (M = ints (uni t b)) ∧ M.length ≤ b * 16 ∧ SetI M D2 ∧ wr.ownsMap Tryz.prog 3 (plainElem Tryz.prog 4) gm M.length D2 ∧ wr.ownsMap Tryz.prog 54 (plainElem Tryz.prog 4) (w.heap.size + 1) t.fs.length D ∧ Own wr w.heap.size 26 #[.slice Ab t.bs.length cb, .slice Af t.fs.length cf] ∧ Below w.heap.size w wr) (fun u _ => t.bs.length - (intOf u).toNat)
            case atStart => exact ⟨0, [], _, by omega, rfl, rfl, rfl, by simp, SetD.nil_, HM0.out, HMAPK.out, hbx00.out, hb00⟩
            case round =>
              obtain ⟨b, M, D2, hb, rfl, hbo, hM, hMl, hsd, hmap, hmapk, hbox, hbz⟩ := hrel
              have q0 := hbox.cell_ 0 (v := .slice Ab t.bs.length cb) rfl
              have q1 := hbox.cell_ 1 (v := .slice Af t.fs.length cf) rfl
              have hbl := hbox.lt
              have HBOX := Hd hbox
              have HMAP := Hd hmap
              have HKEYS := Hd hmapk
              have HSD := Hd hsd
              clear hbox hmap hmapk hsd
              by_cases hlt : b < t.bs.length
              · obtain ⟨i0, ei0⟩ : ∃ i0, t.bs[b]? = some i0 := ⟨_, List.getElem?_eq_getElem hlt⟩
                obtain ⟨b1, o1, hAb, hb1, c1⟩ := (HBS.out.below hbz).i1 ei0
                subst hAb
                have H0 := Hd (chst_zero ei0)
                have hwr := hbz
                obtain ⟨w6, rfl⟩ : ∃ w6, w6 = wr := ⟨_, rfl⟩
                clear ei0 hbz
                go_wp2
                clear c1 q0 q1 hbl
                go_loopg [9] (t.fs.length + 1) (fun g u wi => ∃ (pre : List Nat) (i : Int) (D3 : DataW Unit), g = t.fs.length + 1 - pre.length ∧ u = .int .i64 i ∧ Hid (ChSt t b pre i) ∧ Hid (pre.Nodup ∧ ∀ j ∈ pre, ∃ f : Fr, t.fs[j]? = some f ∧ f.used = true ∧ hsh f.s f.p t.bs.length = b) ∧ SetI (M ++ ints pre) D3 ∧ wi.ownsMap Tryz.prog 3 (plainElem Tryz.prog 4) gm (M ++ ints pre).length D3 ∧ wi.ownsMap Tryz.prog 54 (plainElem Tryz.prog 4) (w.heap.size + 1) t.fs.length D ∧ Own wi w.heap.size 26 #[.slice (some ⟨b1, o1, none⟩) t.bs.length cb, .slice Af t.fs.length cf] ∧ Below w.heap.size w wi)
                case atStart => exact ⟨[], i0, D2, by simp, rfl, H0, ⟨List.nodup_nil, fun j h => by cases h⟩, by simpa [ints] using HSD.out, by simpa [ints] using HMAP.out, HKEYS.out, HBOX.out, hwr⟩
                case round =>
                  clear hwr
                  obtain ⟨pre, i, D3, rfl, rfl, hst, hpre, hsd, hmap, hmapk, hbox, hbz⟩ := hrel
                  have q0 := hbox.cell_ 0 (v := .slice (some ⟨b1, o1, none⟩) t.bs.length cb) rfl
                  have q1 := hbox.cell_ 1 (v := .slice Af t.fs.length cf) rfl
                  have hbl := hbox.lt
                  have HBOXI := Hd hbox
                  have HMAPI := Hd hmap
                  have HKEYI := Hd hmapk
                  have HSDI := Hd hsd
                  clear hbox hmap hmapk hsd
                  by_cases hi1 : i = -1
                  · subst hi1
                    have hch := chst_end hst.out
                    have hpl := chn_len (show chn t.fs t.fs.length _ = some pre from (bch_some hch).choose_spec.2)
                    have HB2 : Hid (boks t (b + 1) = true) := boks_step hbo.out hch (fun m j e => (let ⟨f, e1, _, e3⟩ := hpre.out.2 j (List.mem_of_getElem? e); ⟨f, e1, e3⟩))
                    have HU2 : Hid (M ++ ints pre = ints (uni t (b + 1))) := by
                      show _ = _
                      rw [hM.out, ← ints_append]
                      unfold uni
                      rw [hch]
                      cases b <;> rfl
                    have hml2 : (M ++ ints pre).length ≤ (b + 1) * 16 := by rw [List.length_append, ints_length]; omega
                    go_wp2
                    go_roundw
                    case rel => exact ⟨b + 1, _, D3, by omega, by go_num, HB2, HU2, hml2, HSDI.out, HMAPI.out, HKEYI.out, HBOXI.out, hbz⟩
                    case measure => simp [intOf]; omega
                  · have g1 : (i == -1) = false := by rw [beq_eq_false_iff_ne]; exact hi1
                    have KW := fun W => within_any i t.fs.length W
                    have z0 := xcell (w := wr) q0 (by simp; omega)
                    have z1 := xcell (w := wr) q1 (by simp; omega)
                    by_cases hin : inR i t.fs.length = true
                    case neg =>
                      have hin := bool_ff hin
                      rw [hin] at KW
                      have HW := Hd KW
                      have HE : Hid (tv t = false) := tv_bok (bok_none (chst_out hst.out hi1 (fun h => by rw [inR_iff.2 h] at hin; cases hin))) hlt
                      clear KW
                      go_wp2
                      refine wp_region_ext (by kernel_rfl) (by kernel_rfl) ?_
                      repeat (go_big_quiet_step ((go_at_call 37; exact ext_same (HW.out _))))
                      refine wpQuiet_nil ?_
                      intro _ hw'
                      obtain ⟨⟨wq, hq⟩, hw''⟩ := hw'
                      subst hw''
                      try dsimp only
                      go_wp2
                      go_ret
                      exact ⟨by rw [HE.out]; rfl, bT hbz hq⟩
                    case pos =>
                      rw [hin] at KW
                      have HW := Hd KW
                      obtain ⟨h5, h6⟩ := inR_iff.1 hin
                      obtain ⟨k, rfl⟩ := Int.eq_ofNat_of_zero_le h5
                      have hkl : k < t.fs.length := by omega
                      obtain ⟨f, ef⟩ : ∃ f, t.fs[k]? = some f := ⟨_, List.getElem?_eq_getElem hkl⟩
                      have hiok : iok (k : Int) := WalkArith.wf_i64 (by omega)
                      have hlk := fun x : Ext wr => seti_look (map_now HMAPI.out x.ok) HSDI.out hiok
                      clear KW hin h5
                      by_cases hmem : (k : Int) ∈ M ++ ints pre
                      · simp only [decide_eq_true hmem] at hlk
                        have HE : Hid (tv t = false) := by
                          refine tv_bok ?_ hlt
                          rw [hM.out, ← ints_append] at hmem
                          unfold ints at hmem
                          obtain ⟨j, hj, hjk⟩ := List.mem_map.1 hmem
                          have : j = k := by have := Int.ofNat.inj hjk; exact this
                          subst this
                          rcases List.mem_append.1 hj with h | h
                          · exact chst_other hst.out hbo.out h
                          · exact bok_none (chst_twice hst.out h)
                        clear hmem
                        go_wp2
                        refine wp_region_ext (by kernel_rfl) (by kernel_rfl) ?_
                        repeat (go_big_quiet_step ((go_at_call 37; exact ext_same (HW.out _))))
                        refine wpQuiet_nil ?_
                        intro _ hw'
                        obtain ⟨⟨wq, hq⟩, hw''⟩ := hw'
                        subst hw''
                        try dsimp only
                        go_wp2
                        go_ret
                        exact ⟨by rw [HE.out]; rfl, bT hbz hq⟩
                      · simp only [decide_eq_false hmem] at hlk
                        obtain ⟨b4, o4, hAf, hb4, x0, x1, x2, x3, x4⟩ := (HF.out.below hbz).fr ef
                        subst hAf
                        have y0 := xcell (w := wr) x0 (by have := hbz.size; show b4 < _; omega)
                        have y1 := xcell (w := wr) x1 (by have := hbz.size; show b4 < _; omega)
                        have y2 := xcell (w := wr) x2 (by have := hbz.size; show b4 < _; omega)
                        cases hu : f.used with
                        | false =>
                          simp only [hu] at y0
                          have HE : Hid (tv t = false) := tv_bok (bok_none (chst_free hst.out ef hu)) hlt
                          clear hmem
                          go_wp2
                          refine wp_region_ext (by kernel_rfl) (by kernel_rfl) ?_
                          repeat (go_big_quiet_step ((go_at_call 37; exact ext_same (HW.out _))))
                          refine wpQuiet_nil ?_
                          intro _ hw'
                          obtain ⟨⟨wq, hq⟩, hw''⟩ := hw'
                          subst hw''
                          try dsimp only
                          go_wp2
                          go_ret
                          exact ⟨by rw [HE.out]; rfl, bT hbz hq⟩
                        | true =>
                          simp only [hu] at y0
                          have hkv : kval (f.s, f.p) = true := by
                            obtain ⟨⟨g, eg, hg⟩, _⟩ := frs_at HFR.out hkl
                            rw [ef] at eg
                            injection eg with eg
                            subst eg
                            unfold frok at hg
                            rw [hu] at hg
                            simp only [if_true, Bool.and_eq_true] at hg
                            exact hg.1
                          have KH := fun W => hash_any f.s f.p t.bs.length W hkv (by omega)
                          have HBAD : Hid (hsh f.s f.p t.bs.length ≠ b → tv t = false) := fun hh => tv_bok (chst_hash hst.out ef hh) hlt
                          have HGOOD : Hid (hsh f.s f.p t.bs.length = b → ∀ j ∈ pre ++ [k], ∃ f : Fr, t.fs[j]? = some f ∧ f.used = true ∧ hsh f.s f.p t.bs.length = b) := fun hh j hj => by
                            rcases List.mem_append.1 hj with h | h
                            · exact hpre.out.2 j h
                            · rw [List.mem_singleton] at h
                              subst h
                              exact ⟨f, ef, hu, hh⟩
                          have hkp : k ∉ pre := fun h => hmem (List.mem_append.2 (.inr (List.mem_map.2 ⟨k, h, rfl⟩)))
                          have hnd2 : (pre ++ [k]).Nodup := by
                            rw [List.nodup_append]
                            exact ⟨hpre.out.1, by simp, fun a ha c hc h => by rw [List.mem_singleton] at hc; subst h hc; exact hkp ha⟩
                          have hpl : (pre ++ [k]).length ≤ t.fs.length := by
                            have h := len_sub (b := List.range t.fs.length) hnd2 (fun x hx => by
                              rcases List.mem_append.1 hx with h | h
                              · obtain ⟨g, eg, _⟩ := hpre.out.2 x h
                                exact List.mem_range.2 (List.getElem?_eq_some_iff.1 eg).1
                              · rw [List.mem_singleton] at h
                                subst h
                                exact List.mem_range.2 hkl)
                            simpa using h
                          rw [List.length_append, List.length_singleton] at hpl
                          have HST := Hd (chst_step hst.out ef hu (by omega))
                          have HND := Hd hnd2
                          have HSD2 := Hd (seti_add HSDI.out hiok hmem)
                          have HKEY := Hd (ikey_of hiok)
                          have X4 := Hd x4
                          generalize hsh f.s f.p t.bs.length = hv at KH HBAD HGOOD
                          have HH := Hd KH
                          clear KH hmem hkp hnd2 hkv x0 x1 x2 x3 x4 ef
                          by_cases hh : hv = b
                          case neg =>
                            have g5 : (hv == (b : Int)) = false := by rw [beq_eq_false_iff_ne]; exact hh
                            have HE : Hid (tv t = false) := HBAD.out hh
                            clear hh
                            go_wp2
                            refine wp_region_ext (by kernel_rfl) (by kernel_rfl) ?_
                            repeat (go_big_quiet_step ((first | (go_at_call 37; exact ext_same (HW.out _)) | (go_at_call 59; exact ext_call (HH.out _)))))
                            refine wpQuiet_nil ?_
                            intro _ hw'
                            obtain ⟨⟨wq, hq⟩, hw''⟩ := hw'
                            subst hw''
                            try dsimp only
                            go_wp2
                            go_ret
                            exact ⟨by rw [HE.out]; rfl, bT hbz hq⟩
                          case pos =>
                            have HG2 := Hd (HGOOD.out hh)
                            subst hh
                            clear HGOOD HBAD
                            go_wp2
                            refine wp_region_ext (by kernel_rfl) (by kernel_rfl) ?_
                            repeat (go_big_quiet_step ((first | (go_at_call 37; exact ext_same (HW.out _)) | (go_at_call 59; exact ext_call (HH.out _)))))
                            refine wpQuiet_nil ?_
                            intro _ hw'
                            obtain ⟨⟨wq, hq⟩, hw''⟩ := hw'
                            subst hw''
                            try dsimp only
                            have hmap6 := map_now HMAPI.out hq
                            have hkey6 := map_now HKEYI.out hq
                            have hbox6 := HBOXI.out.below hq
                            have hbz6 := bT hbz hq
                            have x46 := (hq.cell (p := ⟨b4, o4 + k * 5 + 4, none⟩) (by have := hbz.size; show b4 < _; omega)).trans X4.out
                            have HMAP6 := Hd hmap6
                            have HKEY6 := Hd hkey6
                            have HBOX6 := Hd hbox6
                            have X46 := Hd x46
                            clear hmap6 hkey6 hbox6 x46 hlk y0 y1 y2 z0 z1 q0 q1
                            have hml3 : (M ++ ints pre).length < maxLen := by rw [List.length_append, ints_length]; unfold maxLen; omega
                            have hpl2 : ints pre ++ [(k : Int)] = ints (pre ++ [k]) := by rw [ints_append]; rfl
                            go_wp2_with (first
                              | (at_mapUpdate; refine wpList_mapUpdate_own _ rfl _ _ _ 121 rfl 3 4 ilaw Tryz.underlying121 (plainElem (H := Unit) Tryz.prog 4) gm _ _ rfl HMAP6.out hml3 _ _ _ rfl rfl HKEY.out _ [] (plainElem_bool Tryz.underlying4 true) ?_; intro w7 hown7 hgrow7
                                 have hbox7 := own_other HBOX6.out hgrow7 (by simp; omega)
                                 have q1 := hbox7.cell_ 1 (v := .slice (some ⟨b4, o4, none⟩) t.fs.length cf) rfl
                                 have x47 : w7.cell? ⟨b4, o4 + k * 5 + 4, none⟩ = some (.int .i64 f.n) := hgrow7.cell (a := ⟨b4, o4 + k * 5 + 4, none⟩) X46.out (by simp; omega)
                                 have HBOX7 := Hd hbox7
                                 have HOWN7 := Hd hown7
                                 have HGR7 := Hd hgrow7
                                 clear hbox7 hown7 hgrow7)
                              | go_in)
                            go_roundg (t.fs.length + 1 - (pre ++ [k]).length)
                            case measure => simp; omega
                            case rel =>
                              have hs3 := HSD2.out
                              rw [List.append_assoc, hpl2] at hs3
                              have ho3 := HOWN7.out
                              rw [show (M ++ ints pre).length + 1 = (M ++ ints (pre ++ [k])).length by simp [ints_length]; omega] at ho3
                              exact ⟨pre ++ [k], f.n, _, rfl, rfl, HST, ⟨HND.out, HG2.out⟩, hs3, ho3, HKEY6.out.kept HGR7.out (by simp; omega), HBOX7.out, bG hbz6 HGR7.out (by intro q hq; injection hq with hq; omega)⟩
              · obtain rfl : b = t.bs.length := by omega
                have hBS : M.length = bsum t t.bs.length := by rw [hM.out, ints_length, uni_len]
                have hD2 := HSD.out.siz
                have hDK := HSZK.out
                have HE : Hid (tv t = decide (bsum t t.bs.length = nus t.fs t.fs.length)) := tv_end HSZ.out HFR.out hbo.out
                rw [← hBS, ← hD2, ← hDK] at HE
                clear hBS hDK hM hsz0
                generalize hs2 : size D2 = Z2 at *
                generalize hs1 : size D = Z1 at *
                by_cases hZ : Z2 = Z1
                · have HE2 : Hid (tv t = true) := by show _ = _; rw [HE.out, decide_eq_true hZ]
                  have g5 : ((Z2 : Int) == (Z1 : Int)) = true := by rw [beq_iff_eq]; omega
                  clear hZ hD2
                  go_wp2_with (first
                    | (at_len; refine wpList_len_own _ rfl _ 121 rfl 3 4 Tryz.underlying121 (plainElem (H := Unit) Tryz.prog 4) gm _ D2 rfl HMAP.out ?_; rw [hs2])
                    | (at_len; refine wpList_len_own _ rfl _ 120 rfl 54 4 Tryz.underlying120 (plainElem (H := Unit) Tryz.prog 4) (w.heap.size + 1) _ D rfl HKEYS.out ?_; rw [hs1])
                    | go_in)
                  go_ret
                  exact ⟨by rw [HE2.out]; rfl, hbz⟩
                · have HE2 : Hid (tv t = false) := by show _ = _; rw [HE.out, decide_eq_false hZ]
                  have g5 : ((Z2 : Int) == (Z1 : Int)) = false := by rw [beq_eq_false_iff_ne]; omega
                  clear hZ hD2
                  go_wp2_with (first
                    | (at_len; refine wpList_len_own _ rfl _ 121 rfl 3 4 Tryz.underlying121 (plainElem (H := Unit) Tryz.prog 4) gm _ D2 rfl HMAP.out ?_; rw [hs2])
                    | (at_len; refine wpList_len_own _ rfl _ 120 rfl 54 4 Tryz.underlying120 (plainElem (H := Unit) Tryz.prog 4) (w.heap.size + 1) _ D rfl HKEYS.out ?_; rw [hs1])
                    | go_in)
                  go_ret
                  exact ⟨by rw [HE2.out]; rfl, hbz⟩
end Go.Proofs.YtfbnokjdkhcgoaaGreatDoor
