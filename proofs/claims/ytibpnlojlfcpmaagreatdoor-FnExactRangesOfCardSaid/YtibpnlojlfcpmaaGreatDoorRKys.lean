/- A part of the proofs of this seat: Kys. -/
import Derived.Deep.CutRange
import Derived.Deep.LoopGhost
import Derived.Deep.RegionHeldLaw
import Derived.Test.YtibpnlojlfcpmaaGreatDoorRMk
set_option linter.unusedVariables false
set_option linter.unusedSimpArgs false
set_option maxRecDepth 1000000
namespace Go.Proofs.YtibpnlojlfcpmaaGreatDoor
open Go.RowKit
theorem KeyBefore_any (a b c d : Int) (w : World) :
  Calls Tryz.prog 133 #[.agg #[.int .i64 a, .int .i64 b], .agg #[.int .i64 c, .int .i64 d]] w fun r w' => r = .returned (.bool (kb (a, b) (c, d))) ∧ Below w.heap.size w w' := by
 have hx := (Own.new_ w 61 #[.int .i64 a, .int .i64 b]).alloc (o := .cells #[.int .i64 c, .int .i64 d] 61)
 have hy := ownAt (W := w.alloc (.cells #[.int .i64 a, .int .i64 b] 61)) (g := w.heap.size + 1) (t := 61) (cs := #[.int .i64 c, .int .i64 d]) (by simp)
 have hb0 : Below w.heap.size w ((w.alloc (.cells #[.int .i64 a, .int .i64 b] 61)).alloc (.cells #[.int .i64 c, .int .i64 d] 61)) := bA (bA bR)
 generalize hW : (w.alloc (.cells #[.int .i64 a, .int .i64 b] 61)).alloc (.cells #[.int .i64 c, .int .i64 d] 61) = W0 at hx hy hb0
 have x0 := hx.cell_ 0 (v := .int .i64 a) rfl
 have x1 := hx.cell_ 1 (v := .int .i64 b) rfl
 have y0 := hy.cell_ 0 (v := .int .i64 c) rfl
 have y1 := hy.cell_ 1 (v := .int .i64 d) rfl
 have HB := Hd hb0
 clear hx hy hb0
 go_enter Tryz.func133, Tryz.ntmps133
 cases h1 : decide (a < c) with
 | true =>
  have HZ : Hid (kb (a, b) (c, d) = true) := by show _ = _; unfold kb; rw [h1]; rfl
  go_wp2
  go_ret
  exact ⟨by rw [HZ.out]; rfl, HB.out⟩
 | false =>
  cases h2 : (a == c) with
  | true =>
   have HZ : Hid (kb (a, b) (c, d) = decide (b < d)) := by show _ = _; unfold kb; rw [h1]; have := beq_iff_eq.1 h2; subst this; simp
   go_wp2
   go_ret
   exact ⟨by rw [HZ.out]; rfl, HB.out⟩
  | false =>
   have HZ : Hid (kb (a, b) (c, d) = false) := by show _ = _; unfold kb; rw [h1]; have : a ≠ c := beq_eq_false_iff_ne.1 h2; simp [this]
   go_wp2
   go_ret
   exact ⟨by rw [HZ.out]; rfl, HB.out⟩
theorem kcells_set (l : List Key) (k : Nat) (a b : Int) (hk : k < l.length) : ((kcells l).set (k * 2) (.int .i64 a)).set (k * 2 + 1) (.int .i64 b) = kcells (l.set k (a, b)) := by
 induction l generalizing k with
 | nil => simp at hk
 | cons x l ih =>
  cases k with
  | zero => rfl
  | succ k =>
   have h := ih k (by simpa using hk)
   have e : kcells (x :: l) = .int .i64 x.1 :: .int .i64 x.2 :: kcells l := rfl
   have e2 : kcells ((x :: l).set (k + 1) (a, b)) = .int .i64 x.1 :: .int .i64 x.2 :: kcells (l.set k (a, b)) := rfl
   rw [e, e2, ← h, show (k + 1) * 2 = k * 2 + 1 + 1 by omega]
   rfl
theorem own_put {base g c n k : Nat} {e : TypeId} {w : World} {l : List Key} (h : w.ownsRow base e 2 (.slice (some ⟨g, 0, none⟩) n c) n (kcells l)) (hl : l.length = n) (hk : k < n) (a b : Int) :
  ((w.setCell ⟨g, k * 2, none⟩ (.int .i64 a)).setCell ⟨g, k * 2 + 1, none⟩ (.int .i64 b)).ownsRow base e 2 (.slice (some ⟨g, 0, none⟩) n c) n (kcells (l.set k (a, b))) := by
 obtain ⟨h1, h2⟩ := h
 rcases h2 with ⟨e1, _⟩ | ⟨g', cap, cur, e1, hb, ho, hc, hm, hs, ht⟩
 ·cases e1
 ·injection e1 with e1 _ e2
  injection e1 with e1
  injection e1 with e1
  subst e1 e2
  have o1 : Own w g e cur := ho
  have o3 := (o1.set_ (k * 2) (.int .i64 a)).set_ (k * 2 + 1) (.int .i64 b)
  refine ⟨by rw [← kcells_set l k a b (by omega)]; simpa using h1, .inr ⟨g, c, _, rfl, hb, o3, hc, hm, by simpa using hs, ?_⟩⟩
  rw [← kcells_set l k a b (by omega), ← ht]
  simp [List.take_set]
theorem kys_of {t : Tab} {l : List Key} {k : Nat} (hs : KSo l) (hp : l.Perm (keysL (t.fs.take k))) (hk : 0 < k → tv t = true) (he : tv t = false ∨ k = t.fs.length) : l = kys t := by
 by_cases htv : tv t = true
 ·have hke : k = t.fs.length := by rcases he with h | h; rw [h] at htv; cases htv; exact h
  rw [hke, List.take_length] at hp
  unfold kys
  rw [if_pos htv]
  exact ksrt_of hs hp
 ·have h0 : k = 0 := by
   rcases Nat.eq_zero_or_pos k with h | h
   ·exact h
   ·exact absurd (hk h) htv
  subst h0
  unfold kys
  rw [if_neg htv]
  exact List.perm_nil.1 (by simpa [keysL] using hp)
theorem kys_ins {t : Tab} {l : List Key} {k j : Nat} {y : Fr} (hs : KSo l) (hp : l.Perm (keysL (t.fs.take k))) (ey : t.fs[k]? = some y) (hu : y.used = true) (hj : j ≤ l.length) (ha : ∀ v ∈ l.drop j, kb (y.s, y.p) v = true) (hb : ∀ i, (h : i < l.length) → i + 1 = j → kb (y.s, y.p) l[i] = false) : KSo (insAt l (y.s, y.p) j) ∧ (insAt l (y.s, y.p) j).Perm (keysL (t.fs.take (k + 1))) := by
 refine ⟨kso_ins hs hj ha hb, (insAt_perm _ _ _).trans ?_⟩
 rw [keysL_take ey, if_pos hu]
 exact hp.append_right _
def kyok (x : Key) : Prop := 0 ≤ x.1 ∧ x.1 ≤ 15 ∧ 0 ≤ x.2 ∧ x.2 ≤ 255
theorem kyok_of {t : Tab} (h : tv t = true) {k : Nat} {y : Fr} (hk : t.fs[k]? = some y) (hu : y.used = true) : kyok (y.s, y.p) := by
 have h1 := (tv_TV.1 h).ok k y hk
 unfold frok at h1
 rw [if_pos hu, Bool.and_eq_true] at h1
 have h2 := h1.1
 unfold kval at h2
 unfold kyok
 simp [inR] at h2
 simp only
 omega
theorem kys_ok {t : Tab} {x : Key} (h : x ∈ kys t) : kyok x ∧ tv t = true := by
 unfold kys at h
 split at h
 ·rename_i htv
  obtain ⟨i, y, hi, hu, rfl⟩ := keysL_mem.1 ((ksrt_perm _).mem_iff.1 h)
  exact ⟨kyok_of htv hi hu, htv⟩
 ·simp at h
theorem own_keyat {base g c n k : Nat} {e : TypeId} {w : World} {l : List Key} (h : w.ownsRow base e 2 (.slice (some ⟨g, 0, none⟩) n c) n (kcells l)) (hl : l.length = n) (hk : k < n) :
  w.cell? ⟨g, k * 2, none⟩ = some (.int .i64 (l.getD k (0, 0)).1) ∧ w.cell? ⟨g, k * 2 + 1, none⟩ = some (.int .i64 (l.getD k (0, 0)).2) ∧ w.frozen? ⟨g, k * 2, none⟩ = false ∧ w.frozen? ⟨g, k * 2 + 1, none⟩ = false ∧ g < w.heap.size := by
 obtain ⟨A, c', e1, _, _, hr⟩ := own_rd h
 injection e1 with e1 _ _
 subst e1
 have hr' : Ks w.heap.size w (some ⟨g, 0, none⟩) l := by unfold Ks; rw [hl]; exact hr
 obtain ⟨b, o, e2, hb, h3, h4⟩ := hr'.key (k := k) (by omega)
 injection e2 with e2
 injection e2 with e2 e3
 subst e2 e3
 have hg : l.getD k (0, 0) = l[k]'(by omega) := by rw [List.getD_eq_getElem?_getD, List.getElem?_eq_getElem (by omega)]; rfl
 rw [Nat.zero_add] at h3
 have h4' : w.cell? ⟨g, k * 2 + 1, none⟩ = some (.int .i64 (l[k]'(by omega)).2) := by rw [← h4]; congr 2; omega
 obtain ⟨h1, h2⟩ := h
 rcases h2 with ⟨e1, _⟩ | ⟨g', cap, cur, e1, _, ho, _⟩
 ·cases e1
 ·injection e1 with e1 _ _
  injection e1 with e1
  injection e1 with e1
  subst e1
  have o1 : Own w g e cur := ho
  exact ⟨by rw [hg]; exact h3, by rw [hg]; exact h4', o1.free _, o1.free _, hb⟩
set_option maxHeartbeats 4000000 in
theorem KeysOf_any (vb vf : Value) (t : Tab) (w : World) (hT : TaR w vb vf t) (hsz : t.fs.length ≤ 1000) :
  Calls Tryz.prog 56 #[.agg #[vb, vf]] w (Post2 fun v w' => w'.ownsRow w.heap.size 61 2 v (kys t).length (kcells (kys t)) ∧ Below w.heap.size w w') := by
 obtain ⟨Ab, cb, rfl, _⟩ := id hT.b
 obtain ⟨Af, cf, rfl, hbc, hbm, hL⟩ := id hT.f
 have HT := Hd hT
 have HL := Hd hL
 clear hT hL
 have ho := Own.new_ w 40 #[.slice Ab t.bs.length cb, .slice Af t.fs.length cf]
 have hb0 : Below w.heap.size w (w.alloc (.cells #[.slice Ab t.bs.length cb, .slice Af t.fs.length cf] 40)) := bA bR
 have hs0 : (w.alloc (.cells #[.slice Ab t.bs.length cb, .slice Af t.fs.length cf] 40)).heap.size = w.heap.size + 1 := by simp
 have hx := owns_lit (base := w.heap.size + 1) (e := 61) (w.alloc (.cells #[.slice Ab t.bs.length cb, .slice Af t.fs.length cf] 40)) 2 (by omega)
 rw [hs0] at hx
 have ho1 := ho.alloc (o := .cells #[] 61)
 have hb1 : Below w.heap.size w ((w.alloc (.cells #[.slice Ab t.bs.length cb, .slice Af t.fs.length cf] 40)).alloc (.cells #[] 61)) := bA (bA bR)
 generalize hW : (w.alloc (.cells #[.slice Ab t.bs.length cb, .slice Af t.fs.length cf] 40)).alloc (.cells #[] 61) = W0 at hx ho1 hb1
 have HX := Hd hx
 have HO := Hd ho1
 have HB := Hd hb1
 clear hx ho ho1 hb0 hb1
 go_enter Tryz.func56, Tryz.ntmps56
 go_wp2
 go_loopw [3, 4] (fun out u wr => ∃ (k : Nat) (l : List Key), k ≤ t.fs.length ∧ u = .int .i64 k ∧ l.length ≤ k ∧ Hid (KSo l ∧ l.Perm (keysL (t.fs.take k)) ∧ (0 < k → tv t = true)) ∧ Hid (wr.ownsRow (w.heap.size + 1) 61 2 out l.length (kcells l)) ∧ Hid (Own wr w.heap.size 40 #[.slice Ab t.bs.length cb, .slice Af t.fs.length cf]) ∧ Hid (Below w.heap.size w wr)) (fun _ u _ => t.fs.length - (intOf u).toNat)
 case atStart => exact ⟨0, [], by omega, rfl, by simp, Hd ⟨List.Pairwise.nil, by simp [keysL], fun h => absurd h (by omega)⟩, HX, HO, HB⟩
 case round =>
  obtain ⟨k, l, hk, rfl, hlk, HP, HX, HO, HB⟩ := hrel
  have o0 := HO.out.cell_ 0 (v := .slice Ab t.bs.length cb) rfl
  have o1 := HO.out.cell_ 1 (v := .slice Af t.fs.length cf) rfl
  have hlo := HO.out.lt
  by_cases hlt : k < t.fs.length
  ·have hki : (k : Int) < (t.fs.length : Int) := by omega
   go_wp2_with fail
   refine (sTableValid_any _ _ t wr (HT.out.now HB.out)).mono ?_
   rintro e w2 ⟨rfl, hb2⟩
   have HO2 := Hd (HO.out.below hb2)
   have HX2 := Hd (own_kept HX.out hb2)
   have HB2 := Hd (bT HB.out hb2)
   clear o0 o1 hlo HO HX HB hb2
   have o0 := HO2.out.cell_ 0 (v := .slice Ab t.bs.length cb) rfl
   have o1 := HO2.out.cell_ 1 (v := .slice Af t.fs.length cf) rfl
   have hlo := HO2.out.lt
   cases htv : tv t with
   | false =>
    have HE : Hid (l = kys t) := Hd (kys_of HP.out.1 HP.out.2.1 HP.out.2.2 (.inl htv))
    go_wp2
    go_ret
    exact ⟨_, rfl, by rw [← HE.out]; exact own_mono HX2.out (by omega), HB2.out⟩
   | true =>
    obtain ⟨y, ey⟩ : ∃ y, t.fs[k]? = some y := ⟨_, List.getElem?_eq_getElem hlt⟩
    have hfs := (HT.out.now HB2.out).fsl
    obtain ⟨bq, oq, rfl, hbq, y0, y1, y2, y3, y4⟩ := hfs.fr ey
    clear hfs
    have hk0 : (0 : Int) ≤ (k : Int) := by omega
    have HEY := Hd ey
    clear ey
    cases hu : y.used with
    | false =>
     rw [hu] at y0
     have HP2 : Hid (KSo l ∧ l.Perm (keysL (t.fs.take (k + 1))) ∧ (0 < k + 1 → tv t = true)) := Hd ⟨HP.out.1, by rw [keysL_take HEY.out, hu]; simpa using HP.out.2.1, fun _ => htv⟩
     go_wp2
     go_roundw
     case rel => exact ⟨k + 1, l, by omega, by simp, by omega, HP2, HX2, HO2, HB2⟩
     case measure => simp [intOf]; omega
    | true =>
     rw [hu] at y0
     have HU := Hd hu
     have HTV := Hd htv
     have hsz2 : w.heap.size + 1 ≤ w2.heap.size := hlo
     obtain ⟨A8, c8, rfl, _⟩ := own_rd HX2.out
     obtain ⟨v7, w7, hrun, hown7, hg7, _⟩ := run_append_key (w.heap.size + 1) w2 (.slice A8 l.length c8) l.length l y.s y.p HX2.out rfl (by omega) hsz2
     have hbl : ∀ b, (Value.slice A8 l.length c8).ownBlock = some b → w.heap.size + 1 ≤ b := own_block HX2.out
     have ho7 := own_other (HO2.out.alloc (o := .cells #[.int .i64 y.s, .int .i64 y.p] 61)) hg7 (fun h2 => by have := hbl _ h2.symm; omega)
     have hb7 := bG (bA HB2.out (o := .cells #[.int .i64 y.s, .int .i64 y.p] 61)) hg7 (fun b hb => by have := hbl b hb; omega)
     obtain ⟨g7, c7, rfl⟩ : ∃ g7 c7, v7 = .slice (some ⟨g7, 0, none⟩) (l.length + 1) c7 := by
      rcases hown7.2 with ⟨_, e⟩ | ⟨g, cap, cur, e, _⟩
      ·omega
      ·exact ⟨g, cap, e⟩
     have hg8 : w.heap.size + 1 ≤ g7 := own_block hown7 g7 rfl
     rw [← insAt_end] at hown7
     have HX7 := Hd hown7
     have HO7 := Hd ho7
     have HB7 := Hd hb7
     clear hown7 hg7 hbl ho7 hb7 HX2 HO2 HB2
     go_wp2_with (at_builtin; refine wpList_append_run _ rfl (.tmp 26) (.tmp 33) 58 rfl _ _ _ _ rfl rfl hrun ?_)
     clear hrun
     go_loopw [5] (fun u wi => ∃ j : Nat, u = .int .i64 j ∧ j ≤ l.length ∧ Hid (∀ v ∈ l.drop j, kb (y.s, y.p) v = true) ∧ Hid (wi.ownsRow (w.heap.size + 1) 61 2 (.slice (some ⟨g7, 0, none⟩) (l.length + 1) c7) (l.length + 1) (kcells (insAt l (y.s, y.p) j))) ∧ Hid (Own wi w.heap.size 40 #[.slice Ab t.bs.length cb, .slice (some ⟨bq, oq, none⟩) t.fs.length cf]) ∧ Hid (Below w.heap.size w wi)) (fun u _ => (intOf u).toNat)
     case atStart => exact ⟨l.length, by simp, by omega, Hd (by simp), HX7, HO7, HB7⟩
     case round =>
      obtain ⟨j, rfl, hj, HP8, HX8, HO8, HB8⟩ := hrel
      clear HX7 HO7 HB7 y0 y1 y2 y3 y4 o0 o1 hlo hu htv
      have hl' := insAt_length (x := (y.s, y.p)) hj
      by_cases hj0 : 0 < j
      ·obtain ⟨i, rfl⟩ : ∃ i, j = i + 1 := ⟨j - 1, by omega⟩
       have hji : (0 : Int) < (i : Int) + 1 := by omega
       have hjc : (i : Int) + 1 - 1 = (i : Int) := by omega
       have hjn : ((i : Int) + 1).toNat = i + 1 := by omega
       have hbd1 : (i : Int) + 1 < (l.length : Int) + 1 := by omega
       have hbd2 : (i : Int) < (l.length : Int) + 1 := by omega
       have hbd3 : (0 : Int) ≤ (i : Int) + 1 := by omega
       have hbd4 : i < l.length + 1 := by omega
       have hwi : IntKind.i64.wrap (i : Int) = i := IntWalk.i64_in _ (by omega)
       have hbd5 : i ≤ l.length := by omega
       have hbd6 : decide (i < l.length + 1) = true := by simp; omega
       have hil : i < l.length := by omega
       obtain ⟨a0, a1, a2, a3, a4⟩ := own_keyat HX8.out hl' (k := i + 1) (by omega)
       obtain ⟨b0, b1, b2, b3, _⟩ := own_keyat HX8.out hl' (k := i) (by omega)
       rw [insAt_at hj] at a0 a1
       rw [insAt_before (Nat.lt_succ_self i) hil] at b0 b1
       dsimp only at a0 a1
       obtain ⟨u2, hu2⟩ : ∃ u, l[i] = u := ⟨_, rfl⟩
       rw [hu2] at b0 b1
       have HU2 := Hd hu2
       have HL' := Hd hl'
       clear hu2 hl'
       have hi0 : (0 : Int) ≤ (i : Int) := by omega
       have hi1 : (i : Int) < ((l.length + 1 : Nat) : Int) := by omega
       have hi2 : ((i + 1 : Nat) : Int) < ((l.length + 1 : Nat) : Int) := by omega
       have hi3 : (0 : Int) ≤ ((i + 1 : Nat) : Int) := by omega
       go_wp2
       go_still_tail 12, (by kernel_rfl)
       go_wp2_with fail
       refine (KeyBefore_any _ _ _ _ _).mono ?_
       rintro _ w9 ⟨rfl, hbz⟩
       have hbw : Below wr.heap.size wr w9 := bT (bD bR) hbz
       have HX9 := Hd (own_kept HX8.out hbw)
       have HO9 := Hd (HO8.out.below hbw)
       have HB9 := Hd (bT HB8.out hbw)
       clear HX8 HO8 HB8 hbz hbw a0 a1 a2 a3 a4 b0 b1 b2 b3
       cases hz : kb (y.s, y.p) (u2.1, u2.2) with
       | false =>
        have HPN := Hd (kys_ins HP.out.1 HP.out.2.1 HEY.out HU.out hj HP8.out (fun i' h e => by have hii : i' = i := (by omega); subst hii; rw [HU2.out]; exact hz))
        go_wp2
        go_roundw
        case rel => exact ⟨k + 1, insAt l (y.s, y.p) (i + 1), by omega, by simp, by rw [HL'.out]; omega, Hd ⟨HPN.out.1, HPN.out.2, fun _ => HTV.out⟩, by (show World.ownsRow _ _ _ _ _ _ _; rw [HL'.out]; exact HX9.out), HO9, HB9⟩
        case measure => simp [intOf]; omega
       | true =>
        obtain ⟨a0, a1, a2, a3, a4⟩ := own_keyat HX9.out HL'.out (k := i + 1) (by omega)
        obtain ⟨b0, b1, b2, b3, _⟩ := own_keyat HX9.out HL'.out (k := i) (by omega)
        rw [insAt_at hj] at a0 a1
        rw [insAt_before (Nat.lt_succ_self i) hil, HU2.out] at b0 b1
        dsimp only at a0 a1
        have hne : w.heap.size ≠ g7 := by omega
        have hneA : w9.heap.size ≠ g7 := by omega
        have hXA := HX9.out.alloc (.cells #[.int .i64 y.s, .int .i64 y.p] 61)
        have hOA := Own.new_ w9 61 #[.int .i64 y.s, .int .i64 y.p]
        have hX11 := own_put hXA HL'.out (k := i + 1) (by omega) u2.1 u2.2
        have hO11 := (hOA.far (p := ⟨g7, (i + 1) * 2, none⟩) (u := .int .i64 u2.1) hneA).far (p := ⟨g7, (i + 1) * 2 + 1, none⟩) (u := .int .i64 u2.2) hneA
        have hX10 := own_put hX11 (by simpa using HL'.out) (k := i) (by omega) y.s y.p
        rw [show ((insAt l (y.s, y.p) (i + 1)).set (i + 1) (u2.1, u2.2)).set i (y.s, y.p) = insAt l (y.s, y.p) i by rw [← insAt_swap hil, HU2.out]] at hX10
        have hO10 := ((((HO9.out.alloc (o := .cells #[.int .i64 y.s, .int .i64 y.p] 61)).far (p := ⟨g7, (i + 1) * 2, none⟩) (u := .int .i64 u2.1) hne).far (p := ⟨g7, (i + 1) * 2 + 1, none⟩) (u := .int .i64 u2.2) hne).far (p := ⟨g7, i * 2, none⟩) (u := .int .i64 y.s) hne).far (p := ⟨g7, i * 2 + 1, none⟩) (u := .int .i64 y.p) hne
        have hgw : w.heap.size ≤ g7 := by omega
        have hB10 := bS (bS (bS (bS (bA HB9.out (o := .cells #[.int .i64 y.s, .int .i64 y.p] 61)) (p := ⟨g7, (i + 1) * 2, none⟩) (u := .int .i64 u2.1) hgw) (p := ⟨g7, (i + 1) * 2 + 1, none⟩) (u := .int .i64 u2.2) hgw) (p := ⟨g7, i * 2, none⟩) (u := .int .i64 y.s) hgw) (p := ⟨g7, i * 2 + 1, none⟩) (u := .int .i64 y.p) hgw
        have HP10 : Hid (∀ v ∈ l.drop i, kb (y.s, y.p) v = true) := by
         intro v hv
         rw [List.drop_eq_getElem_cons hil] at hv
         rcases List.mem_cons.1 hv with h | h
         ·rw [h, HU2.out]; exact hz
         ·exact HP8.out v h
        have HXA := Hd hXA
        have HOA := Hd hOA
        have HX11 := Hd hX11
        have HO11 := Hd hO11
        have HX10 := Hd hX10
        have HO10 := Hd hO10
        have HB10 := Hd hB10
        clear hX10 hO10 hB10 hXA hOA hX11 hO11 HX9 HO9 HB9 HP8
        go_upto_region 11 with fail
        clear a0 a1 a2 a3 a4 b0 b1 b2 b3
        generalize w9.alloc (.cells #[.int .i64 y.s, .int .i64 y.p] 61) = wA at *
        obtain ⟨a0, a1, a2, a3, a4⟩ := own_keyat HXA.out HL'.out (k := i + 1) (by omega)
        obtain ⟨b0, b1, b2, b3, _⟩ := own_keyat HXA.out HL'.out (k := i) (by omega)
        rw [insAt_at hj] at a0 a1
        rw [insAt_before (Nat.lt_succ_self i) hil, HU2.out] at b0 b1
        go_upto_region 12 with fail
        clear a0 a1 a2 a3 a4 b0 b1 b2 b3 HXA HOA
        generalize (wA.setCell ⟨g7, (i + 1) * 2, none⟩ (.int .i64 u2.1)).setCell ⟨g7, (i + 1) * 2 + 1, none⟩ (.int .i64 u2.2) = wB at *
        obtain ⟨b0, b1, b2, b3, b4⟩ := own_keyat HX11.out (by simpa using HL'.out) (k := i) (by omega)
        have t0 := HO11.out.cell_ 0 (v := .int .i64 y.s) rfl
        have t1 := HO11.out.cell_ 1 (v := .int .i64 y.p) rfl
        go_wp2
        go_roundw
        case rel => exact ⟨i, by simp, by omega, HP10, HX10, HO10, HB10⟩
        case measure => simp [intOf]
      ·obtain rfl : j = 0 := by omega
       have HPN := Hd (kys_ins HP.out.1 HP.out.2.1 HEY.out HU.out hj HP8.out (fun i' h e => absurd e (by omega)))
       have HL' := Hd hl'
       clear hl'
       go_wp2
       go_quiet (fail)
       have HX9 := Hd (own_kept HX8.out (bDN bR (n := nq)))
       have HO9 := Hd (HO8.out.below (bDN bR (n := nq)))
       have HB9 := Hd (bT HB8.out (bDN bR (n := nq)))
       go_wp2
       go_roundw
       case rel => exact ⟨k + 1, insAt l (y.s, y.p) 0, by omega, by simp, by rw [HL'.out]; omega, Hd ⟨HPN.out.1, HPN.out.2, fun _ => HTV.out⟩, by (show World.ownsRow _ _ _ _ _ _ _; rw [HL'.out]; exact HX9.out), HO9, HB9⟩
       case measure => simp [intOf]; omega
  ·obtain rfl : k = t.fs.length := by omega
   have hki : decide ((t.fs.length : Int) < (t.fs.length : Int)) = false := by simp
   have HE : Hid (l = kys t) := Hd (kys_of HP.out.1 HP.out.2.1 HP.out.2.2 (.inr rfl))
   go_wp2
   go_ret
   exact ⟨_, rfl, by rw [← HE.out]; exact own_mono HX.out (by omega), HB.out⟩
end Go.Proofs.YtibpnlojlfcpmaaGreatDoor
