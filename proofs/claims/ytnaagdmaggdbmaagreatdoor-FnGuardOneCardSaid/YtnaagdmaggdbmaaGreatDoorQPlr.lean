/- A part of the proofs of this seat: Plr, LGo. -/
import Derived.Deep.CutRange
import Derived.Test.YtnaagdmaggdbmaaGreatDoorQCp6
import Derived.Test.YtnaagdmaggdbmaaGreatDoorQPrI
import Derived.Test.YtnaagdmaggdbmaaGreatDoorQKeep
import Derived.Test.YtnaagdmaggdbmaaGreatDoorQTchP
import Derived.Test.YtnaagdmaggdbmaaGreatDoorQGdI
import Derived.Test.YtnaagdmaggdbmaaGreatDoorQRgS
import Derived.Test.YtnaagdmaggdbmaaGreatDoorQKt
set_option linter.unusedVariables false
set_option linter.unusedSimpArgs false
namespace Go.Proofs.YtnaagdmaggdbmaaGreatDoor
open Go.RowKit
theorem find_set {α : Type} {p : α → Bool} : ∀ {l : List α} {k : Nat} {a b : α}, l[k]? = some a → p b = p a → (l.set k b).findIdx? p = l.findIdx? p
  | [], k, a, b, h, _ => by simp at h
  | x :: l, 0, a, b, h, hp => by
    simp only [List.getElem?_cons_zero, Option.some.injEq] at h
    subst h
    simp only [List.set_cons_zero, List.findIdx?_cons, hp]
  | x :: l, k + 1, a, b, h, hp => by
    simp only [List.getElem?_cons_succ] at h
    simp only [List.set_cons_succ, List.findIdx?_cons, find_set h hp]
theorem fnd_set {fs : List Fr} {i : Nat} {f g : Fr} {s p : Int} (e : fs[i]? = some f) (h : (g.used && decide ((g.s, g.p) = (s, p))) = (f.used && decide ((f.s, f.p) = (s, p)))) : fnd (fs.set i g) s p = fnd fs s p := find_set e h
theorem fndI_eq {fs fs' : List Fr} {s p : Int} (h : fnd fs' s p = fnd fs s p) : fndI fs' s p = fndI fs s p := by unfold fndI; rw [h]
theorem prT_at {t : Tab} {s p : Int} (r : Int) (h : fOK t s p = true) : ∃ (i : Nat) (f : Fr), fnd t.fs s p = some i ∧ t.fs[i]? = some f ∧ f.used = true ∧ (f.s, f.p) = (s, p) ∧ prT t s p r = ⟨t.bs, t.fs.set i { f with r := r }⟩ := by
 obtain ⟨k, f, h1, h2, h3, h4, h5, _⟩ := fOK_at h
 refine ⟨k, f, h2, h3, h4, h5, ?_⟩
 unfold prT
 simp only [h1, Int.toNat_natCast, getD_at h3]
theorem prT_fnd {t : Tab} {s p : Int} (r : Int) (h : fOK t s p = true) (s' p' : Int) : fnd (prT t s p r).fs s' p' = fnd t.fs s' p' := by
 obtain ⟨i, f, h1, h2, h3, h4, h5⟩ := prT_at r h
 rw [h5]
 exact fnd_set h2 rfl
theorem grdO_iff {m : Ma} {s p r : Int} : grdO m s p r = true ↔ mav m = true ∧ fOK m.t s p = true ∧ inR r 8 = true := by
 unfold grdO prOK
 simp only [Bool.and_eq_true]
theorem grdV_at {m : Ma} {s p r : Int} (h : grdO m s p r = true) : grdV m s p r = drpM m (prT m.t s p r) s p := by
 obtain ⟨_, h2, h3⟩ := grdO_iff.1 h
 unfold grdV prV prOK
 rw [if_pos h, h2, h3]
 rfl
theorem fOK_iff {t : Tab} {s p : Int} : fOK t s p = true ↔ tv t = true ∧ kval (s, p) = true ∧ 0 ≤ fndI t.fs s p := by
 unfold fOK
 simp only [Bool.and_eq_true, decide_eq_true_eq, and_assoc]
theorem bool_iff {a b : Bool} (h : a = true ↔ b = true) : a = b := by cases a <;> cases b <;> simp_all
theorem grd_keeps {m : Ma} {s p r : Int} (h : grdO m s p r = true) (s' p' r' : Int) : grdO (grdV m s p r) s' p' r' = grdO m s' p' r' := by
 have hv := mav_grd h
 have hm := (grdO_iff.1 h).1
 have hf := (grdO_iff.1 h).2.1
 refine bool_iff ?_
 rw [grdO_iff, grdO_iff, fOK_iff, fOK_iff]
 have ht : (grdV m s p r).t = prT m.t s p r := by rw [grdV_at h]; rfl
 rw [ht, fndI_eq (prT_fnd r hf s' p')]
 have h1 := (mav_parts hv).1
 rw [ht] at h1
 have h2 := (mav_parts hm).1
 rw [hv, hm, h1, h2]
theorem plc_drp {m : Ma} {s a b : Int} (hne : a ≠ b) (t : Int) : plcI (drpC m s a).ls t b = plcI m.c.ls t b := by
 unfold drpC
 split
 ·rename_i h
  obtain ⟨k, x, hk, ex, hx⟩ := plcI_lt h.2
  rw [hk, Int.toNat_natCast]
  have h0 : fits t b lnz = fits t b x := by
   have h1 := (fits_iff.1 hx).2.1
   have : fits t b x = false := by unfold fits; rw [decide_eq_false (show ¬ x.p = b by rw [h1]; exact hne)]; simp
   rw [this]; rfl
  show plcI (m.c.ls.set k lnz) t b = _
  unfold plcI plc
  rw [find_set ex h0]
 ·rfl
theorem set_lnz (l : List Ln) (i j : Nat) : (l.set i lnz).set j lnz = (l.set j lnz).set i lnz := by
 by_cases h : i = j
 ·rw [h]
 ·exact List.set_comm _ _ h
theorem drpC_comm {m : Ma} {T1 T2 : Tab} {s a b : Int} (hne : a ≠ b) : drpC (drpM m T1 s a) s b = drpC (drpM m T2 s b) s a := by
 have e1 : drpC (drpM m T1 s a) s b = if tagO m s b = true ∧ 0 ≤ plcI (drpC m s a).ls (tagT m s b) b then ⟨(drpC m s a).ls.set (plcI (drpC m s a).ls (tagT m s b) b).toNat lnz, (drpC m s a).hand⟩ else drpC m s a := rfl
 have e2 : drpC (drpM m T2 s b) s a = if tagO m s a = true ∧ 0 ≤ plcI (drpC m s b).ls (tagT m s a) a then ⟨(drpC m s b).ls.set (plcI (drpC m s b).ls (tagT m s a) a).toNat lnz, (drpC m s b).hand⟩ else drpC m s b := rfl
 rw [e1, e2, plc_drp hne, plc_drp (fun h => hne h.symm)]
 by_cases hA : tagO m s a = true ∧ 0 ≤ plcI m.c.ls (tagT m s a) a <;> by_cases hB : tagO m s b = true ∧ 0 ≤ plcI m.c.ls (tagT m s b) b
 ·have a1 : drpC m s a = ⟨m.c.ls.set (plcI m.c.ls (tagT m s a) a).toNat lnz, m.c.hand⟩ := by unfold drpC; rw [if_pos hA]
  have b1 : drpC m s b = ⟨m.c.ls.set (plcI m.c.ls (tagT m s b) b).toNat lnz, m.c.hand⟩ := by unfold drpC; rw [if_pos hB]
  rw [if_pos hA, if_pos hB, a1, b1, set_lnz]
 ·have b1 : drpC m s b = m.c := by unfold drpC; rw [if_neg hB]
  have a1 : drpC m s a = ⟨m.c.ls.set (plcI m.c.ls (tagT m s a) a).toNat lnz, m.c.hand⟩ := by unfold drpC; rw [if_pos hA]
  rw [if_pos hA, if_neg hB, a1, b1]
 ·have a1 : drpC m s a = m.c := by unfold drpC; rw [if_neg hA]
  have b1 : drpC m s b = ⟨m.c.ls.set (plcI m.c.ls (tagT m s b) b).toNat lnz, m.c.hand⟩ := by unfold drpC; rw [if_pos hB]
  rw [if_neg hA, if_pos hB, a1, b1]
 ·have a1 : drpC m s a = m.c := by unfold drpC; rw [if_neg hA]
  have b1 : drpC m s b = m.c := by unfold drpC; rw [if_neg hB]
  rw [if_neg hA, if_neg hB, a1, b1]
theorem prT_swap {t : Tab} {s a b : Int} (r : Int) (ha : fOK t s a = true) (hb : fOK t s b = true) (hne : a ≠ b) (ha' : fOK (prT t s b r) s a = true) (hb' : fOK (prT t s a r) s b = true) : prT (prT t s a r) s b r = prT (prT t s b r) s a r := by
 obtain ⟨i, f, i1, i2, i3, i4, i5⟩ := prT_at r ha
 obtain ⟨j, g, j1, j2, j3, j4, j5⟩ := prT_at r hb
 obtain ⟨i', f', k1, k2, _, _, k5⟩ := prT_at r ha'
 obtain ⟨j', g', l1, l2, _, _, l5⟩ := prT_at r hb'
 rw [prT_fnd r hb] at k1
 rw [prT_fnd r ha] at l1
 rw [i1] at k1
 rw [j1] at l1
 injection k1 with k1
 injection l1 with l1
 subst k1 l1
 have hij : i ≠ j := by
  rintro rfl
  rw [i2] at j2
  injection j2 with j2
  subst j2
  rw [i4] at j4
  injection j4 with _ j4
  exact hne j4
 rw [j5] at k2
 rw [i5] at l2
 simp only at k2 l2
 rw [set_ne (fun h => hij h.symm), i2] at k2
 rw [set_ne hij, j2] at l2
 injection k2 with k2
 injection l2 with l2
 subst k2 l2
 rw [l5, k5, i5, j5]
 simp only
 rw [List.set_comm _ _ hij]
theorem grd_swap {m : Ma} {s a b r : Int} (ha : grdO m s a r = true) (hb : grdO m s b r = true) (hne : a ≠ b) : grdV (grdV m s a r) s b r = grdV (grdV m s b r) s a r := by
 have ha' : grdO (grdV m s b r) s a r = true := by rw [grd_keeps hb]; exact ha
 have hb' : grdO (grdV m s a r) s b r = true := by rw [grd_keeps ha]; exact hb
 have qa := (grdO_iff.1 ha').2.1
 have qb := (grdO_iff.1 hb').2.1
 rw [grdV_at hb', grdV_at ha']
 rw [grdV_at hb] at qa ⊢
 rw [grdV_at ha] at qb ⊢
 have ht := prT_swap r (grdO_iff.1 ha).2.1 (grdO_iff.1 hb).2.1 hne qa qb
 have hc := drpC_comm (m := m) (T1 := prT m.t s a r) (T2 := prT m.t s b r) (s := s) hne
 show (⟨prT (prT m.t s a r) s b r, drpC (drpM m (prT m.t s a r) s a) s b, m.g, m.sp⟩ : Ma) = ⟨prT (prT m.t s b r) s a r, drpC (drpM m (prT m.t s b r) s b) s a, m.g, m.sp⟩
 rw [ht, hc]
abbrev guO (s p r : Int) (m : Ma) (k : Nat) : Bool := grdO m s (p + k) r
abbrev guV (s p r : Int) (m : Ma) (k : Nat) : Ma := grdV m s (p + k) r
def guA (s p r : Int) (m : Ma) : Nat → Ma
 | 0 => m
 | k + 1 => guV s p r (guA s p r m k) k
theorem guA_keeps {s p r : Int} {m : Ma} : ∀ (n : Nat), (∀ k, k < n → guO s p r m k = true) → ∀ s' p' r', grdO (guA s p r m n) s' p' r' = grdO m s' p' r'
  | 0, _, _, _, _ => rfl
  | n + 1, h, s', p', r' => by
    have ih := guA_keeps n (fun k hk => h k (by omega))
    have h1 : grdO (guA s p r m n) s (p + n) r = true := by rw [ih]; exact h n (by omega)
    show grdO (grdV (guA s p r m n) s (p + n) r) s' p' r' = _
    rw [grd_keeps h1, ih]
theorem guA_of {s p r : Int} {m x : Ma} : ∀ {n : Nat}, rgN (guO s p r) (guV s p r) m n = some x → (∀ k, k < n → guO s p r m k = true) ∧ x = guA s p r m n
  | 0, h => by injection h with h; exact ⟨fun k hk => by omega, h.symm⟩
  | n + 1, h => by
    unfold rgN at h
    cases e : rgN (guO s p r) (guV s p r) m n with
    | none => rw [e] at h; cases h
    | some m' =>
      rw [e] at h
      simp only at h
      split at h
      · rename_i hok
        injection h with h
        obtain ⟨h1, rfl⟩ := guA_of e
        refine ⟨fun k hk => ?_, h.symm⟩
        rcases Nat.lt_or_ge k n with h2 | h2
        · exact h1 k h2
        · obtain rfl : k = n := by omega
          have := guA_keeps k h1 s (p + k) r
          show grdO m s (p + (k : Nat)) r = true
          rw [← this]; exact hok
      · cases h
theorem guA_comm {s p r : Int} {b : Int} {m : Ma} (hb : grdO m s b r = true) : ∀ (n : Nat), (∀ k : Nat, k < n → p + k ≠ b) → (∀ k, k < n → guO s p r m k = true) → guA s p r (grdV m s b r) n = grdV (guA s p r m n) s b r
  | 0, _, _ => rfl
  | n + 1, hne, h => by
    have ih := guA_comm hb n (fun k hk => hne k (by omega)) (fun k hk => h k (by omega))
    have hk := guA_keeps n (fun k hk => h k (by omega))
    show guV s p r (guA s p r (grdV m s b r) n) n = grdV (guV s p r (guA s p r m n) n) s b r
    rw [ih]
    exact (grd_swap (by rw [hk]; exact h n (by omega)) (by rw [hk]; exact hb) (hne n (by omega))).symm
def guD (s p r : Int) (m : Ma) (n : Nat) : Nat → Ma
 | 0 => m
 | k + 1 => guV s p r (guD s p r m n k) (n - 1 - k)
theorem guD_shift {s p r : Int} {m : Ma} {n : Nat} : ∀ k, k ≤ n → guD s p r m (n + 1) (k + 1) = guD s p r (guV s p r m n) n k
  | 0, _ => by unfold guD guD; simp
  | k + 1, hk => by
    show guV s p r (guD s p r m (n + 1) (k + 1)) (n + 1 - 1 - (k + 1)) = guV s p r (guD s p r (guV s p r m n) n k) (n - 1 - k)
    rw [guD_shift k (by omega), show n + 1 - 1 - (k + 1) = n - 1 - k by omega]
theorem guD_all {s p r : Int} : ∀ {n : Nat} {m : Ma}, (∀ k, k < n → guO s p r m k = true) → guD s p r m n n = guA s p r m n
  | 0, _, _ => rfl
  | n + 1, m, h => by
    have hn := h n (by omega)
    rw [guD_shift n (by omega), guD_all (fun k hk => by
      show grdO (grdV m s (p + n) r) s (p + k) r = true
      rw [grd_keeps hn]; exact h k (by omega))]
    exact guA_comm hn n (fun k hk => by omega) (fun k hk => h k (by omega))
theorem guD_ok {s p r : Int} {n : Nat} {m : Ma} (h : ∀ k, k < n → guO s p r m k = true) : ∀ k, k ≤ n → ∀ s' p' r', grdO (guD s p r m n k) s' p' r' = grdO m s' p' r'
  | 0, _, _, _, _ => rfl
  | k + 1, hk, s', p', r' => by
    have ih := guD_ok h k (by omega)
    show grdO (grdV (guD s p r m n k) s (p + (n - 1 - k : Nat)) r) s' p' r' = _
    rw [grd_keeps (by rw [ih]; exact h (n - 1 - k) (by omega)), ih]
def guF (s p r : Int) (k : Nat) (f : Fr) : Fr := if f.used = true ∧ f.s = s ∧ p ≤ f.p ∧ f.p < p + k then { f with r := r } else f
theorem guA_fs {s p r : Int} {m : Ma} (hm : mav m = true) : ∀ (n : Nat), (∀ k, k < n → guO s p r m k = true) → (guA s p r m n).t.fs = m.t.fs.map (guF s p r n)
  | 0, _ => by
    have : guF s p r 0 = id := funext fun f => by unfold guF; rw [if_neg (by omega)]; rfl
    rw [this, List.map_id]; rfl
  | n + 1, h => by
    have ih := guA_fs hm n (fun k hk => h k (by omega))
    have hk := guA_keeps n (fun k hk => h k (by omega)) s (p + n) r
    have hn : grdO (guA s p r m n) s (p + n) r = true := by rw [hk]; exact h n (by omega)
    have e1 : (guA s p r m (n + 1)).t = prT (guA s p r m n).t s (p + n) r := by
      show (grdV (guA s p r m n) s (p + n) r).t = _
      rw [grdV_at hn]; rfl
    rw [e1]
    obtain ⟨i, f, h1, h2, h3, h4, h5⟩ := prT_at r (grdO_iff.1 hn).2.1
    obtain ⟨j, g, q1, q2, q3, q4, _⟩ := prT_at r (grdO_iff.1 (h n (by omega))).2.1
    rw [h5]
    simp only
    have htv := (mav_parts (grdO_iff.1 hn).1).1
    obtain ⟨_, hfr, _⟩ := tv_parts htv
    apply List.ext_getElem?
    intro k
    rw [List.getElem?_set, ih, List.getElem?_map, List.length_map]
    rw [ih, List.getElem?_map] at h2
    cases eg : m.t.fs[i]? with
    | none => rw [eg] at h2; cases h2
    | some g0 =>
      rw [eg] at h2
      simp only [Option.map_some, Option.some.injEq] at h2
      have hil := (List.getElem?_eq_some_iff.1 eg).1
      have hg0 : g0.used = true ∧ (g0.s, g0.p) = (s, p + n) := by
        subst h2
        unfold guF at h3 h4
        split at h3
        · rename_i hc; rw [if_pos hc] at h4; exact ⟨h3, h4⟩
        · rename_i hc; rw [if_neg hc] at h4; exact ⟨h3, h4⟩
      have hg1 : g0.s = s := congrArg Prod.fst hg0.2
      have hg2 : g0.p = p + n := congrArg Prod.snd hg0.2
      by_cases hik : i = k
      · subst hik
        rw [if_pos rfl, if_pos hil, List.getElem?_map, eg, Option.map_some]
        subst h2
        congr 1
        unfold guF
        rw [if_neg (by omega), if_pos ⟨hg0.1, hg1, by omega, by omega⟩]
      · rw [if_neg hik, List.getElem?_map]
        cases ek : m.t.fs[k]? with
        | none => rfl
        | some fk =>
          simp only [Option.map_some]
          congr 1
          have hne : ¬ (fk.used = true ∧ fk.s = s ∧ fk.p = p + n) := by
            rintro ⟨u1, u2, u3⟩
            obtain ⟨_, hfr0, _⟩ := tv_parts (mav_parts hm).1
            exact hik (key_once hfr0 eg ek hg0.1 u1 (by rw [hg0.2, u2, u3]))
          unfold guF
          by_cases hc : fk.used = true ∧ fk.s = s ∧ p ≤ fk.p ∧ fk.p < p + n
          · rw [if_pos hc, if_pos ⟨hc.1, hc.2.1, hc.2.2.1, by omega⟩]
          · rw [if_neg hc, if_neg]
            rintro ⟨u1, u2, u3, u4⟩
            by_cases hlt : fk.p < p + n
            · exact hc ⟨u1, u2, u3, hlt⟩
            · exact hne ⟨u1, u2, by omega⟩
end Go.Proofs.YtnaagdmaggdbmaaGreatDoor
namespace Go.Proofs.YtnaagdmaggdbmaaGreatDoor.lGuardOne
open Go.RowKit
set_option linter.unusedVariables false
set_option linter.unusedSimpArgs false
set_option maxRecDepth 1000000
theorem gu_parts {m V : Ma} {s p r c : Int} {O : Bool} (hV : rgV (guO s p r) (guV s p r) m c = V) (hO : (rgO (guO s p r) (guV s p r) m c).isSome = O) (ht : O = true) : ∃ n : Nat, c = n ∧ 1 ≤ n ∧ n ≤ 16 ∧ mav m = true ∧ (∀ k, k < n → guO s p r m k = true) ∧ V = guA s p r m n ∧ mav V = true := by
 by_cases h : mav m = true ∧ 1 ≤ c ∧ c ≤ 16
 ·obtain ⟨h1, h2, h3⟩ := h
  obtain ⟨n, rfl⟩ := Int.eq_ofNat_of_zero_le (show 0 ≤ c by omega)
  have h4 := rgO_yes (O := guO s p r) (V := guV s p r) h1 (show 1 ≤ n by omega) (show n ≤ 16 by omega)
  unfold rgV at hV
  rw [h4] at hV hO
  cases e : rgN (guO s p r) (guV s p r) m n with
  | none => rw [e] at hO; rw [ht] at hO; cases hO
  | some x =>
   rw [e] at hV
   have hx : x = V := hV
   subst hx
   obtain ⟨h5, h6⟩ := guA_of e
   exact ⟨n, rfl, by omega, by omega, h1, h5, h6, rgN_keep (P := fun x => mav x = true) (fun m' k h _ => mav_grd h) h1 n _ e⟩
 ·rw [rgO_no h] at hO
  rw [ht] at hO
  cases hO
set_option maxHeartbeats 4000000 in
theorem walk (a0 : Option Addr) (len0 cap0 : Nat) (z0 : List Int) (w : World) (w0 : IsRow .u8 w a0 len0 cap0 z0) (hfree : Free w) :
  Calls Tryz.prog 4 #[.slice a0 len0 cap0] w fun e w' => e = .returned (.bool true) ∧ Below w.heap.size w w' := by
 by_cases hbig : 1048576 < len0
 ·go_enter Tryz.func4, Tryz.ntmps4
  go_wp2
  go_ret
  exact ⟨rfl, by repeat first | exact bR | refine bA ?_⟩
 have hcap := row_cap w0
 have hby := Lib.hid (row_bytes w0)
 have HF := Lib.hid hfree
 clear w0 hfree
 go_enter Tryz.func4, Tryz.ntmps4
 go_wp2_with fail
 refine (DrawGuardRange_any a0 len0 cap0 w hby.out hcap (by omega)).mono ?_
 rintro e w1 ⟨_, rfl, m, v1, v2, v3, v4, s, p, c, r, rfl, hM, hz, hss, hsp, hsc, hsr, hb1⟩
 obtain ⟨A1, c1, rfl, _⟩ := hM.t.b
 obtain ⟨A2, c2, rfl, _⟩ := hM.t.f
 obtain ⟨A3, c3, rfl, _⟩ := hM.l
 obtain ⟨A4, c4, rfl, _⟩ := hM.o
 have hx := (Own.new_ w1 34 #[.slice A1 m.t.bs.length c1, .slice A2 m.t.fs.length c2, .slice A3 m.c.ls.length c3, .int .i64 m.c.hand, .int .i64 m.g.count, .int .i64 m.g.next, .int .i64 m.g.round, .slice A4 m.g.os.length c4, .int .i64 m.sp]).alloc (o := .cells #[.int .i64 s, .int .i64 p] 36)
 have hk := ownAt (W := w1.alloc (.cells #[.slice A1 m.t.bs.length c1, .slice A2 m.t.fs.length c2, .slice A3 m.c.ls.length c3, .int .i64 m.c.hand, .int .i64 m.g.count, .int .i64 m.g.next, .int .i64 m.g.round, .slice A4 m.g.os.length c4, .int .i64 m.sp] 34)) (g := w1.heap.size + 1) (t := 36) (cs := #[.int .i64 s, .int .i64 p]) (by simp)
 have hb2 : Below w1.heap.size w1 ((w1.alloc (.cells #[.slice A1 m.t.bs.length c1, .slice A2 m.t.fs.length c2, .slice A3 m.c.ls.length c3, .int .i64 m.c.hand, .int .i64 m.g.count, .int .i64 m.g.next, .int .i64 m.g.round, .slice A4 m.g.os.length c4, .int .i64 m.sp] 34)).alloc (.cells #[.int .i64 s, .int .i64 p] 36)) := bA (bA bR)
 have hs2 : ((w1.alloc (.cells #[.slice A1 m.t.bs.length c1, .slice A2 m.t.fs.length c2, .slice A3 m.c.ls.length c3, .int .i64 m.c.hand, .int .i64 m.g.count, .int .i64 m.g.next, .int .i64 m.g.round, .slice A4 m.g.os.length c4, .int .i64 m.sp] 34)).alloc (.cells #[.int .i64 s, .int .i64 p] 36)).heap.size = w1.heap.size + 2 := by simp
 generalize hW2 : (w1.alloc (.cells #[.slice A1 m.t.bs.length c1, .slice A2 m.t.fs.length c2, .slice A3 m.c.ls.length c3, .int .i64 m.c.hand, .int .i64 m.g.count, .int .i64 m.g.next, .int .i64 m.g.round, .slice A4 m.g.os.length c4, .int .i64 m.sp] 34)).alloc (.cells #[.int .i64 s, .int .i64 p] 36) = w2 at hx hk hb2 hs2
 have HM := Lib.hid (hM.now hb2)
 have HX := Lib.hid hx
 have HK := Lib.hid hk
 have HB := Lib.hid (bT hb1 hb2)
 have hs1 := hb1.size
 clear hM hx hk hb1 hb2
 generalize hmb : w1.heap.size = mb at *
 obtain ⟨V, hV⟩ : ∃ V, rgV (guO s p r) (guV s p r) m c = V := ⟨_, rfl⟩
 obtain ⟨O, hO⟩ : ∃ O, (rgO (guO s p r) (guV s p r) m c).isSome = O := ⟨_, rfl⟩
 have KI : Hid (∀ W, Below w2.heap.size w2 W → Calls Tryz.prog 18 #[.agg #[.slice A1 m.t.bs.length c1, .slice A2 m.t.fs.length c2, .slice A3 m.c.ls.length c3, .int .i64 m.c.hand, .int .i64 m.g.count, .int .i64 m.g.next, .int .i64 m.g.round, .slice A4 m.g.os.length c4, .int .i64 m.sp], .agg #[.int .i64 s, .int .i64 p], .int .i64 c, .int .i64 r] W (Post2 fun v w' => ∃ v1 v2 v3 v4, v = .tuple #[.agg #[v1, v2, v3, .int .i64 V.c.hand, .int .i64 V.g.count, .int .i64 V.g.next, .int .i64 V.g.round, v4, .int .i64 V.sp], .bool O] ∧ MaM W.heap.size w' v1 v2 v3 v4 V ∧ Below W.heap.size W w')) := by
  intro W hb
  have hMr := (HM.out.now hb).r
  have hFr := HF.out.now (bT HB.out hb)
  subst hV hO
  exact GuardRange_any _ _ _ _ m s p c r W hMr hFr
 have KS : Hid (∀ W, Below w2.heap.size w2 W → Calls Tryz.prog 19 #[.agg #[.slice A1 m.t.bs.length c1, .slice A2 m.t.fs.length c2, .slice A3 m.c.ls.length c3, .int .i64 m.c.hand, .int .i64 m.g.count, .int .i64 m.g.next, .int .i64 m.g.round, .slice A4 m.g.os.length c4, .int .i64 m.sp], .agg #[.int .i64 s, .int .i64 p], .int .i64 c, .int .i64 r] W (Post2 fun v w' => ∃ v1 v2 v3 v4, v = .tuple #[.agg #[v1, v2, v3, .int .i64 V.c.hand, .int .i64 V.g.count, .int .i64 V.g.next, .int .i64 V.g.round, v4, .int .i64 V.sp], .bool O] ∧ MaM W.heap.size w' v1 v2 v3 v4 V ∧ Below W.heap.size W w')) := by
  intro W hb
  have hMr := (HM.out.now hb).r
  subst hV hO
  exact sGuardRange_any _ _ _ _ m s p c r W hMr (by have := hsp.1; have := hsp.2; omega)
 obtain ⟨p0a, p1a, p2a, p3a, p4a, p5a, p6a, p7a, p8a⟩ := cells9 HX.out
 have y0a := HK.out.cell_ 0 (v := .int .i64 s) rfl
 have y1a := HK.out.cell_ 1 (v := .int .i64 p) rfl
 go_wp2_with fail
 try rw [hW2]
 refine (KI.out w2 bR).mono ?_
 rintro e w3 ⟨_, rfl, u1, u2, u3, u4, rfl, hM3, hb3⟩
 clear hW2 KI p0a p1a p2a p3a p4a p5a p6a p7a p8a y0a y1a
 obtain ⟨B1, d1, rfl, _⟩ := hM3.t.b
 obtain ⟨B2, d2, rfl, _⟩ := hM3.t.f
 obtain ⟨B3, d3, rfl, _⟩ := hM3.l
 obtain ⟨B4, d4, rfl, _⟩ := hM3.o
 have hy := Own.new_ w3 34 #[.slice B1 V.t.bs.length d1, .slice B2 V.t.fs.length d2, .slice B3 V.c.ls.length d3, .int .i64 V.c.hand, .int .i64 V.g.count, .int .i64 V.g.next, .int .i64 V.g.round, .slice B4 V.g.os.length d4, .int .i64 V.sp]
 have hb4 : Below w3.heap.size w3 (w3.alloc (.cells #[.slice B1 V.t.bs.length d1, .slice B2 V.t.fs.length d2, .slice B3 V.c.ls.length d3, .int .i64 V.c.hand, .int .i64 V.g.count, .int .i64 V.g.next, .int .i64 V.g.round, .slice B4 V.g.os.length d4, .int .i64 V.sp] 34)) := bA bR
 generalize hW4 : w3.alloc (.cells #[.slice B1 V.t.bs.length d1, .slice B2 V.t.fs.length d2, .slice B3 V.c.ls.length d3, .int .i64 V.c.hand, .int .i64 V.g.count, .int .i64 V.g.next, .int .i64 V.g.round, .slice B4 V.g.os.length d4, .int .i64 V.sp] 34) = w4 at hy hb4
 have hbx := bT hb3 hb4
 try replace HM := Lib.hid (HM.out.now hbx)
 try replace HX := Lib.hid (HX.out.below hbx)
 try replace HK := Lib.hid (HK.out.below hbx)
 try replace HV := Lib.hid (HV.out.now hbx)
 try replace HY := Lib.hid (HY.out.below hbx)
 try replace HU := Lib.hid (HU.out.now hbx)
 try replace HZ := Lib.hid (HZ.out.below hbx)
 try replace HL := Lib.hid (HL.out.now hbx)
 try replace HE := Lib.hid (HE.out.now hbx)
 replace HB := Lib.hid (bT HB.out hbx)
 have HV := Lib.hid (hM3.now hb4)
 have HY := Lib.hid hy
 have hs3 := hb3.size
 clear hM3 hy hb4
 obtain ⟨p0a, p1a, p2a, p3a, p4a, p5a, p6a, p7a, p8a⟩ := cells9 HX.out
 have y0a := HK.out.cell_ 0 (v := .int .i64 s) rfl
 have y1a := HK.out.cell_ 1 (v := .int .i64 p) rfl
 go_wp2_with fail
 try rw [hW4]
 refine (KS.out w4 hbx).mono ?_
 rintro e w5 ⟨_, rfl, u1, u2, u3, u4, rfl, hM5, hb5⟩
 clear hbx
 clear hW4 KS hb3 p0a p1a p2a p3a p4a p5a p6a p7a p8a y0a y1a
 obtain ⟨C1, e1, rfl, _⟩ := hM5.t.b
 obtain ⟨C2, e2, rfl, _⟩ := hM5.t.f
 obtain ⟨C3, e3, rfl, _⟩ := hM5.l
 obtain ⟨C4, e4, rfl, _⟩ := hM5.o
 have hy := Own.new_ w5 34 #[.slice C1 V.t.bs.length e1, .slice C2 V.t.fs.length e2, .slice C3 V.c.ls.length e3, .int .i64 V.c.hand, .int .i64 V.g.count, .int .i64 V.g.next, .int .i64 V.g.round, .slice C4 V.g.os.length e4, .int .i64 V.sp]
 have hb6 : Below w5.heap.size w5 (w5.alloc (.cells #[.slice C1 V.t.bs.length e1, .slice C2 V.t.fs.length e2, .slice C3 V.c.ls.length e3, .int .i64 V.c.hand, .int .i64 V.g.count, .int .i64 V.g.next, .int .i64 V.g.round, .slice C4 V.g.os.length e4, .int .i64 V.sp] 34)) := bA bR
 generalize hW6 : w5.alloc (.cells #[.slice C1 V.t.bs.length e1, .slice C2 V.t.fs.length e2, .slice C3 V.c.ls.length e3, .int .i64 V.c.hand, .int .i64 V.g.count, .int .i64 V.g.next, .int .i64 V.g.round, .slice C4 V.g.os.length e4, .int .i64 V.sp] 34) = w6 at hy hb6
 have hbx := bT hb5 hb6
 try replace HM := Lib.hid (HM.out.now hbx)
 try replace HX := Lib.hid (HX.out.below hbx)
 try replace HK := Lib.hid (HK.out.below hbx)
 try replace HV := Lib.hid (HV.out.now hbx)
 try replace HY := Lib.hid (HY.out.below hbx)
 try replace HU := Lib.hid (HU.out.now hbx)
 try replace HZ := Lib.hid (HZ.out.below hbx)
 try replace HL := Lib.hid (HL.out.now hbx)
 try replace HE := Lib.hid (HE.out.now hbx)
 replace HB := Lib.hid (bT HB.out hbx)
 have HU := Lib.hid (hM5.now hb6)
 have HZ := Lib.hid hy
 have hs5 := hb5.size
 clear hM5 hy hb6
 obtain ⟨p0a, p1a, p2a, p3a, p4a, p5a, p6a, p7a, p8a⟩ := cells9 HY.out
 obtain ⟨p0b, p1b, p2b, p3b, p4b, p5b, p6b, p7b, p8b⟩ := cells9 HZ.out
 clear hb5 hbx
 go_wp2_with fail
 try rw [hW6]
 refine (MachineSame_same _ _ _ _ _ _ _ _ V w6 HV.out.r HU.out.r).mono ?_
 rintro e w7 ⟨rfl, hb7⟩
 clear hW6 p0a p1a p2a p3a p4a p5a p6a p7a p8a
 clear p0b p1b p2b p3b p4b p5b p6b p7b p8b
 try replace HM := Lib.hid (HM.out.now hb7)
 try replace HX := Lib.hid (HX.out.below hb7)
 try replace HK := Lib.hid (HK.out.below hb7)
 try replace HV := Lib.hid (HV.out.now hb7)
 try replace HY := Lib.hid (HY.out.below hb7)
 try replace HU := Lib.hid (HU.out.now hb7)
 try replace HZ := Lib.hid (HZ.out.below hb7)
 try replace HL := Lib.hid (HL.out.now hb7)
 try replace HE := Lib.hid (HE.out.now hb7)
 replace HB := Lib.hid (bT HB.out hb7)
 clear hb7
 cases O with
 | false =>
  obtain ⟨p0a, p1a, p2a, p3a, p4a, p5a, p6a, p7a, p8a⟩ := cells9 HY.out
  obtain ⟨p0b, p1b, p2b, p3b, p4b, p5b, p6b, p7b, p8b⟩ := cells9 HZ.out
  go_wp2_with fail
  refine (MachineSame_same _ _ _ _ _ _ _ _ V _ HV.out.r HU.out.r).mono ?_
  rintro e w8 ⟨rfl, hb8⟩
  replace HB := Lib.hid (bT HB.out hb8)
  go_wp2
  go_ret
  exact ⟨rfl, HB.out⟩
 | true =>
  obtain ⟨n, rfl, hn1, hn2, hmv, hgu, hVe, hVv⟩ := gu_parts hV hO rfl
  have HGU := Lib.hid hgu
  have HVE : Hid (guD s p r m n n = V) := Lib.hid ((guD_all hgu).trans hVe.symm)
  have hp1 := hsp.1
  have hp2 := hsp.2
  clear hV hO hgu hVe hVv
  obtain ⟨w8, hW8, hoY, hbY, _⟩ := box1 w7 #[.slice A1 m.t.bs.length c1, .slice A2 m.t.fs.length c2, .slice A3 m.c.ls.length c3, .int .i64 m.c.hand, .int .i64 m.g.count, .int .i64 m.g.next, .int .i64 m.g.round, .slice A4 m.g.os.length c4, .int .i64 m.sp] 34
  have hMY := HM.out.now hbY
  have HOY := Lib.hid hoY
  have HMY := Lib.hid hMY
  have HBY := Lib.hid hbY
  have hs7 := HB.out.size
  clear hoY hMY hbY
  obtain ⟨p0a, p1a, p2a, p3a, p4a, p5a, p6a, p7a, p8a⟩ := cells9 HX.out
  go_upto_region 9 with fail
  try rw [hW8]
  clear hW8
  clear p0a p1a p2a p3a p4a p5a p6a p7a p8a
  go_wp2
  go_loopw [12] (fun u wr => ∃ (k : Nat) (c1 c2 c3 c4 : Value), k ≤ n ∧ u = .int .i64 ((n : Int) - 1 - k) ∧ Own wr w7.heap.size 34 #[c1, c2, c3, .int .i64 (guD s p r m n k).c.hand, .int .i64 (guD s p r m n k).g.count, .int .i64 (guD s p r m n k).g.next, .int .i64 (guD s p r m n k).g.round, c4, .int .i64 (guD s p r m n k).sp] ∧ MaM w.heap.size wr c1 c2 c3 c4 (guD s p r m n k) ∧ Below w7.heap.size w7 wr) (fun u _ => (intOf u + 1).toNat)
  case atStart => exact ⟨0, _, _, _, _, by omega, by simp, HOY.out, HMY.out, HBY.out⟩
  case round =>
   obtain ⟨k, c1, c2, c3, c4, hk, rfl, hoy, hmy, hbr⟩ := hrel
   clear HOY HMY HBY
   try replace HM := Lib.hid (HM.out.now hbr)
   try replace HX := Lib.hid (HX.out.below hbr)
   try replace HK := Lib.hid (HK.out.below hbr)
   try replace HV := Lib.hid (HV.out.now hbr)
   try replace HY := Lib.hid (HY.out.below hbr)
   try replace HU := Lib.hid (HU.out.now hbr)
   try replace HZ := Lib.hid (HZ.out.below hbr)
   try replace HL := Lib.hid (HL.out.now hbr)
   try replace HE := Lib.hid (HE.out.now hbr)
   replace HB := Lib.hid (bT HB.out hbr)
   obtain ⟨G1, g1, rfl, _⟩ := hmy.t.b
   obtain ⟨G2, g2, rfl, _⟩ := hmy.t.f
   obtain ⟨G3, g3, rfl, _⟩ := hmy.l
   obtain ⟨G4, g4, rfl, _⟩ := hmy.o
   have hsw : w.heap.size ≤ wr.heap.size := HB.out.size
   by_cases hlt : k < n
   ·obtain ⟨j, hj⟩ : ∃ j : Nat, n - 1 - k = j := ⟨_, rfl⟩
    have hji : (n : Int) - 1 - (k : Int) = (j : Int) := by omega
    have hjn : j < n := by omega
    have hok : grdO (guD s p r m n k) s (p + (j : Int)) r = true := by rw [guD_ok HGU.out k hk]; exact HGU.out j hjn
    have hnx : grdV (guD s p r m n k) s (p + (j : Int)) r = guD s p r m n (k + 1) := by subst hj; rfl
    have K8 := Lib.hid (GuardPage_any _ _ _ _ (guD s p r m n k) s (p + (j : Int)) r wr hmy.r (HF.out.now HB.out))
    rw [hok, hnx] at K8
    have hwp : IntKind.i64.wrap (p + (j : Int)) = p + j := IntWalk.i64_in _ (by omega)
    have hj0 : (0 : Int) ≤ (j : Int) := by omega
    rw [hji]
    generalize hG : guD s p r m n k = G at *
    have HOY := Lib.hid hoy
    obtain ⟨p0a, p1a, p2a, p3a, p4a, p5a, p6a, p7a, p8a⟩ := cells9 HOY.out
    have q0 := HK.out.cell_ 0 (v := .int .i64 s) rfl
    have q1 := HK.out.cell_ 1 (v := .int .i64 p) rfl
    clear hoy hmy hG hok hnx hji
    go_wp2_with fail
    refine K8.out.mono ?_
    rintro e w9 ⟨_, rfl, u1, u2, u3, u4, rfl, hm9, hb9⟩
    generalize hG' : guD s p r m n (k + 1) = G' at *
    obtain ⟨L1, l1, rfl, _⟩ := hm9.t.b
    obtain ⟨L2, l2, rfl, _⟩ := hm9.t.f
    obtain ⟨L3, l3, rfl, _⟩ := hm9.l
    obtain ⟨L4, l4, rfl, _⟩ := hm9.o
    obtain ⟨wX, hWX, hoX, hbX, _⟩ := box1 w9 #[.slice L1 G'.t.bs.length l1, .slice L2 G'.t.fs.length l2, .slice L3 G'.c.ls.length l3, .int .i64 G'.c.hand, .int .i64 G'.g.count, .int .i64 G'.g.next, .int .i64 G'.g.round, .slice L4 G'.g.os.length l4, .int .i64 G'.sp] 34
    have hbx9 := bT hb9 hbX
    replace HOY := Lib.hid (HOY.out.below hbx9)
    have HMX := Lib.hid ((hm9.now hbX).mono hsw)
    have HOX := Lib.hid hoX
    have HBX := Lib.hid (bT hbr hbx9)
    have hs9 := hb9.size
    have hly := HOY.out.lt
    clear q0 q1 hm9 hb9 hbX hbx9 hoX K8
    clear p0a p1a p2a p3a p4a p5a p6a p7a p8a
    go_upto_region 13 with fail
    try rw [hWX]
    clear hWX
    obtain ⟨p0a, p1a, p2a, p3a, p4a, p5a, p6a, p7a, p8a⟩ := cells9 HOX.out
    obtain ⟨p0b, p1b, p2b, p3b, p4b, p5b, p6b, p7b, p8b⟩ := cells9 HOY.out
    obtain ⟨w0b, w1b, w2b, w3b, w4b, w5b, w6b, w7b, w8b⟩ := free9 HOY.out
    go_wp2
    go_roundw
    case rel =>
     refine ⟨k + 1, _, _, _, _, by omega, by rw [show (n : Int) - 1 - ((k + 1 : Nat) : Int) = (j : Int) - 1 by omega], by rw [hG']; exact HOY.out.set9 _ _ _ _ _ _ _ _ _, by rw [hG']; exact HMX.out.far9 HOY.out _ _ _ _ _ _ _ _ _, ?_⟩
     repeat (refine bS ?_ (by exact Nat.le_refl _))
     exact HBX.out
    case measure => simp [intOf]
   ·obtain rfl : k = n := by omega
    have e1 : (k : Int) - 1 - (k : Int) = -1 := by omega
    rw [e1]
    rw [HVE.out] at hoy hmy
    have HOY := Lib.hid hoy
    have HMY := Lib.hid hmy
    clear hoy hmy HVE HGU
    obtain ⟨p0a, p1a, p2a, p3a, p4a, p5a, p6a, p7a, p8a⟩ := cells9 HOY.out
    obtain ⟨p0b, p1b, p2b, p3b, p4b, p5b, p6b, p7b, p8b⟩ := cells9 HY.out
    go_wp2_with fail
    refine (MachineSame_same _ _ _ _ _ _ _ _ V _ HV.out.r HMY.out.r).mono ?_
    rintro e w9 ⟨rfl, hb9⟩
    replace HB := Lib.hid (bT HB.out hb9)
    go_wp2
    go_ret
    exact ⟨rfl, HB.out⟩
end Go.Proofs.YtnaagdmaggdbmaaGreatDoor.lGuardOne
