/- A part of the proofs of this seat: TchP, WpP, Draw, Draw2, Sz, TchS, RowB. -/
import Derived.Test.YtnaagdmaggdbmaaGreatDoorTMem
import Derived.Test.YtnaagdmaggdbmaaGreatDoorTMa
import Derived.Test.YtnaagdmaggdbmaaGreatDoorTVicP
import Derived.Test.YtnaagdmaggdbmaaGreatDoorTFilS
import Derived.Test.YtnaagdmaggdbmaaGreatDoorTProtS
set_option linter.unusedVariables false
set_option linter.unusedSimpArgs false
namespace Go.Proofs.YtnaagdmaggdbmaaGreatDoor
open Go.RowKit
theorem tlast_top {os : List (Int × Int)} {n : Int} : ∀ {k : Nat}, tok os n k = true → ∀ (j : Nat) (q : Int × Int), j < k → os[j]? = some q → q.2 ≤ tlast os k
  | 0, _, j, q, hj, _ => absurd hj (by omega)
  | k + 1, h, j, q, hj, e => by
    obtain ⟨o, eo, _, _, _, h1, _⟩ := tok_at h (Nat.lt_succ_self k)
    have h2 : tok os n k = true := by unfold tok at h; rw [Bool.and_eq_true] at h; exact h.1
    rw [tlast_of eo]
    rcases Nat.lt_or_ge j k with hlt | hge
    · have := tlast_top h2 j q hlt e
      omega
    · obtain rfl : j = k := by omega
      rw [eo] at e
      injection e with e
      rw [e]; exact Int.le_refl _
theorem tok_pre {os : List (Int × Int)} {n : Int} {m : Nat} : ∀ {k : Nat}, k ≤ m → tok os n m = true → tok os n k = true := by
 induction m with
 | zero =>
  intro k hk h
  obtain rfl : k = 0 := by omega
  rfl
 | succ m ih =>
  intro k hk h
  rcases Nat.lt_or_ge k (m + 1) with hlt | hge
  ·exact ih (by omega) (by unfold tok at h; rw [Bool.and_eq_true] at h; exact h.1)
  ·obtain rfl : k = m + 1 := by omega
   exact h
theorem spc_own {g : Tg} (hg : tgv g = true) {k : Nat} {o : Int × Int} (eo : g.os[k]? = some o) : spc g.os o.2 = some k := by
 obtain ⟨_, ht⟩ := tgv_parts hg
 have hk := (List.getElem?_eq_some_iff.1 eo).1
 refine spc_at eo (fun j q hj e hq => ?_) rfl
 obtain ⟨o', eo', _, _, _, h1, _⟩ := tok_at ht hk
 rw [eo] at eo'
 injection eo' with eo'
 have := tlast_top (tok_pre (Nat.le_of_lt hk) ht) j q hj e
 rw [eo'] at hq
 omega
def tln (m : Ma) (p fr : Int) : Ln := ⟨true, tagT m m.sp p, p, fr, (m.t.fs.getD fr.toNat frz).r, false⟩
theorem MV.tag {m : Ma} (M : MV m) (p : Int) : ((128 ≤ p) ↔ tagT m m.sp p = -1) ∧ (∀ x : Ln, x.p = p → x.t = tagT m m.sp p → ∃ s, lnSp m x = some s ∧ keyI s p = keyI m.sp p) := by
 obtain ⟨k, o, hk, eo, ho⟩ := ownI_lt M.o
 obtain ⟨b1, b2⟩ := tgO_yes M.g hk eo
 obtain ⟨_, ht⟩ := tgv_parts M.g
 obtain ⟨o', eo', _, q1, q2, _⟩ := tok_at ht (List.getElem?_eq_some_iff.1 eo).1
 rw [eo] at eo'
 injection eo' with eo'
 subst eo'
 by_cases h : 128 ≤ p
 ·have e1 : tagT m m.sp p = -1 := if_pos h
  refine ⟨⟨fun _ => e1, fun _ => h⟩, fun x hx _ => ⟨0, lnSp_sh (by rw [hx]; exact h), ?_⟩⟩
  unfold keyI
  rw [if_pos h, if_pos h]
 ·have e1 : tagT m m.sp p = o.2 := by unfold tagT; rw [if_neg h, b2]
  refine ⟨⟨fun h' => absurd h' h, fun h' => by rw [e1] at h'; omega⟩, fun x hx hxt => ⟨m.sp, ?_, rfl⟩⟩
  unfold lnSp
  rw [if_neg (by rw [hx]; exact h), hxt, e1, spc_own M.g eo]
  simp only
  rw [List.getD_eq_getElem?_getD, eo]
  simp only [Option.getD_some]
  rw [ho]
theorem MV.fill {m : Ma} (M : MV m) {p : Int} (hp : inR p 256 = true) (hmiss : ¬ 0 ≤ plcI m.c.ls (tagT m m.sp p) p) {k : Nat} (hf : fnd m.t.fs (keyI m.sp p) p = some k) :
  filOK m.c (tln m p k) = true ∧ mav { m with c := filC m.c (tln m p k) } = true := by
 obtain ⟨f, ef, hu, hfk⟩ := fnd_some hf
 obtain ⟨htag, hsp⟩ := M.tag p
 have hkl := (List.getElem?_eq_some_iff.1 ef).1
 have hr : (m.t.fs.getD (k : Int).toNat frz).r = f.r := by rw [Int.toNat_natCast, getD_at ef]
 have hfr := M.t.ok k f ef
 unfold frok at hfr
 rw [hu, if_pos rfl, Bool.and_eq_true] at hfr
 have hl : lnok (tln m p k) = true := by
  unfold lnok tln
  simp only [if_true, Bool.and_eq_true]
  refine ⟨⟨⟨tagT_ok M.g _ _, hp⟩, inR_iff.2 ⟨by omega, ?_⟩⟩, by rw [hr]; exact hfr.2⟩
  have := M.t.sz
  omega
 have hcl : ∀ (i : Nat) (y : Ln), m.c.ls[i]? = some y → clash (tln m p k) y = false := by
  intro i y e
  refine bool_ff fun h => ?_
  unfold clash tln at h
  simp only [Bool.and_eq_true, Bool.or_eq_true, decide_eq_true_eq] at h
  obtain ⟨⟨⟨_, hv⟩, hyp⟩, ht⟩ := h
  have hfit : fits (tagT m m.sp p) p y = true := by
   refine fits_iff.2 ⟨hv, hyp.symm, ?_⟩
   rcases ht with (ht | ht) | ht
   ·exact .inl ht.symm
   ·obtain ⟨_, _, _, _, _, _, h5, _⟩ := lnM_some hv (M.l i y e)
    exact .inr (h5.1 (by rw [← hyp]; exact htag.2 ht))
   ·exact .inr ht
  rw [plcI_none hmiss e] at hfit
  cases hfit
 have hcv := M.c.fill hl rfl hcl
 refine ⟨?_, ?_⟩
 ·unfold filOK
  rw [cav_CV.2 M.c, hl, cav_CV.2 hcv, show (tln m p k).t = tagT m m.sp p from rfl, show (tln m p k).p = p from rfl, decide_eq_false hmiss]
  rfl
 ·refine mav_MV.2 ⟨M.t, hcv, M.g, M.o, M.f, fun i x hi => ?_⟩
  simp only [filC] at hi
  rw [List.getElem?_set] at hi
  have hvi := vic_in M.c
  split at hi
  ·injection hi with hi
   rw [← hi]
   obtain ⟨s, hs1, hs2⟩ := hsp (tln m p k) rfl rfl
   exact lnM_mk (m := { m with c := filC m.c (tln m p k) }) (s := s) (i := k) hs1 (by show fnd m.t.fs (keyI s p) p = some k; rw [hs2]; exact hf) rfl (by show (m.t.fs.getD k frz).r = (m.t.fs.getD (k : Int).toNat frz).r; rw [Int.toNat_natCast]) htag (fun h => by cases h)
  ·exact M.l i x hi
def tchO (m : Ma) (p n : Int) : Bool := mav m && inR p 256 && inR n 8
def tchH (m : Ma) (p : Int) : Int := plcI m.c.ls (tagT m m.sp p) p
def tchK (m : Ma) (p : Int) : Int := fndI m.t.fs (keyI m.sp p) p
def tchFr (m : Ma) (p : Int) : Int := if 0 ≤ tchH m p then (m.c.ls.getD (tchH m p).toNat lnz).f else if 0 ≤ tchK m p then tchK m p else 0
def tchV (m : Ma) (p n : Int) : Ma := if tchO m p n = true then (if 0 ≤ tchH m p then m else if 0 ≤ tchK m p then { m with c := filC m.c (tln m p (tchK m p)) } else m) else maz
def tchF (m : Ma) (p n : Int) : Int := if tchO m p n = true then tchFr m p else 0
def tchA (m : Ma) (p n : Int) : Bool := alw (m.t.fs.getD (tchFr m p).toNat frz).r n
def tchR (m : Ma) (p n : Int) : Int := if tchO m p n = true then (if 0 ≤ tchH m p then (if tchA m p n = true then 1 else 4) else if 0 ≤ tchK m p then (if tchA m p n = true then 2 else 4) else 3) else 0
theorem tchO_no {m : Ma} {p n : Int} (h : tchO m p n = false) : tchV m p n = maz ∧ tchF m p n = 0 ∧ tchR m p n = 0 := by
 unfold tchV tchF tchR
 rw [h]
 exact ⟨rfl, rfl, rfl⟩
theorem fndI_fnd {fs : List Fr} {s p : Int} (h : 0 ≤ fndI fs s p) : ∃ k : Nat, fndI fs s p = (k : Int) ∧ fnd fs s p = some k := by
 unfold fndI at h ⊢
 cases e : fnd fs s p with
 | none => rw [e] at h; simp at h
 | some i => exact ⟨i, rfl, rfl⟩
theorem tchO_parts {m : Ma} {p n : Int} (h : tchO m p n = true) : MV m ∧ inR p 256 = true ∧ inR n 8 = true := by
 unfold tchO at h
 simp only [Bool.and_eq_true] at h
 exact ⟨mav_MV.1 h.1.1, h.1.2, h.2⟩
theorem mav_tch {m : Ma} {p n : Int} (h : tchO m p n = true) : mav (tchV m p n) = true := by
 obtain ⟨M, hp, hn⟩ := tchO_parts h
 unfold tchV
 rw [if_pos h]
 split
 ·exact mav_MV.2 M
 ·rename_i h1
  split
  ·rename_i h2
   obtain ⟨k, hk, hf⟩ := fndI_fnd (show 0 ≤ fndI m.t.fs (keyI m.sp p) p from h2)
   have := (M.fill hp h1 hf).2
   rw [show tchK m p = (k : Int) from hk]
   exact this
  ·exact mav_MV.2 M
theorem MV.hit {m : Ma} (M : MV m) {p : Int} (h : 0 ≤ tchH m p) : ∃ (k i : Nat) (x : Ln) (f : Fr), tchH m p = (k : Int) ∧ m.c.ls[k]? = some x ∧ x.f = (i : Int) ∧ m.t.fs[i]? = some f ∧ f.used = true ∧ f.r = x.r ∧ tchFr m p = (i : Int) ∧ fnd m.t.fs (keyI m.sp p) p = some i := by
 obtain ⟨k, x, hk, ex, hx⟩ := plcI_lt (show 0 ≤ plcI m.c.ls (tagT m m.sp p) p from h)
 obtain ⟨h1, h2, h3⟩ := fits_iff.1 hx
 obtain ⟨s, i, a1, a2, a3, a4, a5, a6⟩ := lnM_some h1 (M.l k x ex)
 obtain ⟨f, ef, hu, hfk⟩ := fnd_some a2
 rw [getD_at ef] at a4
 have hkk : tchH m p = (k : Int) := hk
 refine ⟨k, i, x, f, hkk, ex, a3.symm, ef, hu, a4, ?_, ?_⟩
 ·unfold tchFr
  rw [if_pos h, hkk, Int.toNat_natCast, List.getD_eq_getElem?_getD, ex]
  exact a3.symm
 ·rw [← h2]
  have hks : keyI s x.p = keyI m.sp x.p := by
   by_cases h128 : 128 ≤ x.p
   ·unfold keyI; rw [if_pos h128, if_pos h128]
   ·rcases h3 with h3 | h3
    ·obtain ⟨s', hs1, hs2⟩ := (M.tag p).2 x h2 h3
     rw [a1] at hs1
     injection hs1 with hs1
     rw [hs1, h2]; exact hs2
    ·exact absurd (a5.2 h3) h128
  rw [← hks]; exact a2
end Go.Proofs.YtnaagdmaggdbmaaGreatDoor
namespace Go.Proofs.YtnaagdmaggdbmaaGreatDoor
open Go.RowKit
def wpC (m : Ma) (p : Int) : Ca := (tchV m p 0).c
def wpI (m : Ma) (p : Int) : Int := plcI (wpC m p).ls (-1) p
def wpO (m : Ma) (p : Int) : Bool := tchO m p 0 && !decide (tchR m p 0 = 3) && decide (128 ≤ p) && wirOK (wpC m p) (wpI m p) true
def wpV (m : Ma) (p : Int) : Ma := if wpO m p = true then { tchV m p 0 with c := wirC (wpC m p) (wpI m p) true } else maz
theorem wpO_no {m : Ma} {p : Int} (h : wpO m p = false) : wpV m p = maz := by unfold wpV; rw [h]; rfl
theorem mav_wire {m : Ma} {p : Int} (h : wpO m p = true) : mav (wpV m p) = true := by
 have hV : wpV m p = { tchV m p 0 with c := wirC (wpC m p) (wpI m p) true } := by unfold wpV; rw [if_pos h]
 unfold wpO at h
 simp only [Bool.and_eq_true, decide_eq_true_eq] at h
 obtain ⟨⟨⟨h1, _⟩, h3⟩, h4⟩ := h
 have M := mav_MV.1 (mav_tch h1)
 unfold wirOK at h4
 simp only [Bool.and_eq_true] at h4
 obtain ⟨⟨⟨_, hin⟩, hvv⟩, hc⟩ := h4
 obtain ⟨hi0, hi1⟩ := inR_iff.1 hin
 obtain ⟨k, x, hk, ex, hx⟩ := plcI_lt (show 0 ≤ plcI (wpC m p).ls (-1) p from hi0)
 have hwi : wpI m p = (k : Int) := hk
 obtain ⟨hxv, hxp, hxt⟩ := fits_iff.1 hx
 have hwc : wirC (wpC m p) (wpI m p) true = ⟨(wpC m p).ls.set k { x with w := true }, (wpC m p).hand⟩ := by
  unfold wirC
  rw [hwi, Int.toNat_natCast, List.getD_eq_getElem?_getD, ex]
  rfl
 rw [hwc] at hc
 rw [hV, hwc]
 refine mav_MV.2 ⟨M.t, cav_CV.1 hc, M.g, M.o, M.f, fun i y hi => ?_⟩
 simp only at hi
 rw [List.getElem?_set] at hi
 split at hi
 ·split at hi
  ·injection hi with hi
   rw [← hi]
   obtain ⟨s, j, b1, b2, b3, b4, b5, b6⟩ := lnM_some hxv (M.l k x ex)
   exact lnM_mk (m := { tchV m p 0 with c := ⟨(wpC m p).ls.set k { x with w := true }, (wpC m p).hand⟩ }) (s := s) (i := j) b1 b2 b3 b4 b5 (fun _ => by show 128 ≤ x.p; rw [hxp]; exact h3)
  ·cases hi
 ·exact M.l i y hi
end Go.Proofs.YtnaagdmaggdbmaaGreatDoor
namespace Go.Proofs.YtnaagdmaggdbmaaGreatDoor
open Go.RowKit
structure Bytes (B : Nat) (w : World) (A : Option Addr) (n : Nat) : Prop where
 at_ : ∀ j, j < n → ∃ (b o v : Nat), A = some ⟨b, o, none⟩ ∧ b < B ∧ w.cell? ⟨b, o + j, none⟩ = some (.int .u8 (v : Int)) ∧ v ≤ 255
theorem Bytes.keep {B : Nat} {w w' : World} {A : Option Addr} {n : Nat} (h : Bytes B w A n) (hk : ∀ p : Addr, p.block < B → w'.cell? p = w.cell? p) : Bytes B w' A n :=
 ⟨fun j hj => let ⟨b, o, v, e, hb, hc, h1⟩ := h.at_ j hj; ⟨b, o, v, e, hb, (hk _ hb).trans hc, h1⟩⟩
theorem xor_nat (a b : Nat) (ha : a < 9223372036854775808) (hb : b < 9223372036854775808) : bits .xor .i64 (a : Int) (b : Int) = ((a ^^^ b : Nat) : Int) := by
 have hx : a ^^^ b < 2 ^ 63 := Nat.xor_lt_two_pow (by omega) (by omega)
 have h1 : (BitVec.ofInt 64 (a : Int)).toNat = a := by rw [BitVec.ofInt_natCast, BitVec.toNat_ofNat]; exact Nat.mod_eq_of_lt (by omega)
 have h2 : (BitVec.ofInt 64 (b : Int)).toNat = b := by rw [BitVec.ofInt_natCast, BitVec.toNat_ofNat]; exact Nat.mod_eq_of_lt (by omega)
 show IntKind.i64.wrap ((BitVec.ofInt 64 (a : Int) ^^^ BitVec.ofInt 64 (b : Int)).toNat : Int) = _
 rw [BitVec.toNat_xor, h1, h2]
 exact IntWalk.i64_in _ (by omega)
structure Rdr (B : Nat) (w : World) (g : Nat) (p : Nat) : Prop where
 ok : ∃ A n c, Own w g 141 #[.slice A n c, .int .i64 p] ∧ Bytes B w A n ∧ n ≤ 2000 ∧ B ≤ g
def Picked (n : Int) (B : Nat) (w : World) (g p : Nat) (e : Ending) (w' : World) : Prop :=
 ∃ r : Int, e = .returned (.int .i64 r) ∧ 0 ≤ r ∧ (1 ≤ n → r < n) ∧ Rdr B w' g (p + 1) ∧ w.grownBy w' (some g)
theorem rdr_set {B : Nat} {w : World} {g p : Nat} {A : Option Addr} {n c : Nat} (ho : Own w g 141 #[.slice A n c, .int .i64 p]) (hb : Bytes B w A n) (hn : n ≤ 2000) (hg : B ≤ g) (k : Nat) :
  Rdr B ((w.setCell ⟨g, 1, none⟩ (.int .i64 ((p : Int) + 1))).drewN k) g (p + 1) ∧ w.grownBy ((w.setCell ⟨g, 1, none⟩ (.int .i64 ((p : Int) + 1))).drewN k) (some g) := by
 refine ⟨⟨A, n, c, ?_, hb.keep fun q hq => ?_, hn, hg⟩, ?_⟩
 ·have h := ho.set_ 1 (.int .i64 ((p : Int) + 1))
  have e : ((p : Int) + 1) = ((p + 1 : Nat) : Int) := by omega
  rw [e] at h ⊢
  exact h
 ·exact World.cell?_setCell_other w ⟨g, 1, none⟩ q _ (fun e => by subst e; exact absurd hq (by simp; omega))
 ·exact ⟨rfl, rfl, rfl, by simp [World.setCell], fun i _ hne => Below.heap_setCell w ⟨g, 1, none⟩ _ i (by rintro rfl; exact hne rfl)⟩
theorem emod_in {v n : Int} (hn : 1 ≤ n) : 0 ≤ v % n ∧ (1 ≤ n → v % n < n) := ⟨Int.emod_nonneg _ (by omega), fun _ => Int.emod_lt_of_pos _ (by omega)⟩
set_option maxHeartbeats 1000000 in
theorem pick_any (B g p : Nat) (n : Int) (w : World) (h : Rdr B w g p) (hp : p ≤ 1000000) (hn : n ≤ 1000000) :
  Calls Tryz.prog 47 #[.pointer (some ⟨g, 0, none⟩), .int .i64 n] w (Picked n B w g p) := by
 obtain ⟨A, len, c, ho, hb, hl, hg⟩ := h.ok
 have c0 := ho.cell_ 0 (v := .slice A len c) rfl
 have c1 := ho.cell_ 1 (v := .int .i64 p) rfl
 have f0 := ho.free 0
 have f1 := ho.free 1
 have HO := Lib.hid ho
 have HB := Lib.hid hb
 clear ho hb h
 by_cases h1 : n < 1
 ·go_enter Tryz.func47, Tryz.ntmps47
  go_wp2
  go_ret
  exact ⟨0, rfl, by omega, fun h => by omega, rdr_set HO.out HB.out hl hg 0⟩
 ·by_cases hz : len = 0
  ·subst hz
   go_enter Tryz.func47, Tryz.ntmps47
   go_wp2
   go_ret
   exact ⟨0, rfl, by omega, fun h => by omega, rdr_set HO.out HB.out hl hg 0⟩
  ·have hpos : (0 : Int) < (len : Int) := by omega
   have hne : ((len : Int) == 0) = false := by simp; omega
   by_cases hlt : p < len
   ·obtain ⟨b, o, v, rfl, hbb, hc, hv1⟩ := HB.out.at_ p hlt
    go_enter Tryz.func47, Tryz.ntmps47
    go_wp2
    go_ret
    exact ⟨_, rfl, (emod_in (by omega)).1, (emod_in (by omega)).2, rdr_set HO.out HB.out hl hg 0⟩
   ·obtain ⟨b, o, v, rfl, hbb, hc, hv1⟩ := HB.out.at_ (p % len) (Nat.mod_lt _ (by omega))
    obtain ⟨b', o', v2, e', _, hc2, hv21⟩ := HB.out.at_ ((p * 7 + 3) % len) (Nat.mod_lt _ (by omega))
    injection e' with e'
    injection e' with e1 e2
    subst e1 e2
    have r1 : ((p : Int)).tmod (len : Int) = ((p % len : Nat) : Int) := rfl
    have r2 : ((p : Int) * 7 + 3).tmod (len : Int) = (((p * 7 + 3) % len : Nat) : Int) := by
     rw [show (p : Int) * 7 + 3 = ((p * 7 + 3 : Nat) : Int) by omega]; rfl
    have r3 : ((p : Int)).tdiv (len : Int) = ((p / len : Nat) : Int) := rfl
    have hm1 : p % len < len := Nat.mod_lt _ (by omega)
    have hm2 : (p * 7 + 3) % len < len := Nat.mod_lt _ (by omega)
    have hq : p / len ≤ p := Nat.div_le_self _ _
    generalize p % len = j1 at *
    generalize (p * 7 + 3) % len = j2 at *
    generalize p / len = j3 at *
    have a1 : IntKind.i64.wrap ((p : Int) * 7) = (p : Int) * 7 := IntWalk.i64_in _ (by omega)
    have a2 : IntKind.i64.wrap ((p : Int) * 7 + 3) = (p : Int) * 7 + 3 := IntWalk.i64_in _ (by omega)
    have a3 : IntKind.i64.wrap ((v : Int) * 131) = (v : Int) * 131 := IntWalk.i64_in _ (by omega)
    have a4 : IntKind.i64.wrap ((v2 : Int) * 1117) = (v2 : Int) * 1117 := IntWalk.i64_in _ (by omega)
    have a5 : IntKind.i64.wrap ((v : Int) * 131 + (v2 : Int) * 1117) = (v : Int) * 131 + (v2 : Int) * 1117 := IntWalk.i64_in _ (by omega)
    have a6 : IntKind.i64.wrap ((p : Int) * 29) = (p : Int) * 29 := IntWalk.i64_in _ (by omega)
    have a7 : IntKind.i64.wrap ((v : Int) * 131 + (v2 : Int) * 1117 + (p : Int) * 29) = (v : Int) * 131 + (v2 : Int) * 1117 + (p : Int) * 29 := IntWalk.i64_in _ (by omega)
    have a8 : IntKind.i64.wrap ((j3 : Int) * 53) = (j3 : Int) * 53 := IntWalk.i64_in _ (by omega)
    have a9 : IntKind.i64.wrap ((v : Int) * 131 + (v2 : Int) * 1117 + (p : Int) * 29 + (j3 : Int) * 53) = (v : Int) * 131 + (v2 : Int) * 1117 + (p : Int) * 29 + (j3 : Int) * 53 := IntWalk.i64_in _ (by omega)
    go_enter Tryz.func47, Tryz.ntmps47
    go_wp2
    go_quiet (fail)
    clear r1 r2 r3 a1 a2 a3 a4 a5 a6 a7 a8 a9 hc hc2 c0 c1 f0 f1
    have hE : ∃ X : Nat, (v : Int) * 131 + (v2 : Int) * 1117 + (p : Int) * 29 + (j3 : Int) * 53 = (X : Int) ∧ X ≤ 1000000000 := ⟨v * 131 + v2 * 1117 + p * 29 + j3 * 53, by omega, by omega⟩
    obtain ⟨X, hX, hXb⟩ := hE
    rw [hX]
    clear hX
    have hx : bits .xor .i64 (X : Int) ((X : Int) / 64) = ((X ^^^ (X / 64) : Nat) : Int) := by
     rw [show ((X : Int) / 64) = ((X / 64 : Nat) : Int) from rfl]
     exact xor_nat X (X / 64) (by omega) (by omega)
    generalize X ^^^ (X / 64) = R at hx
    go_wp2
    go_ret
    exact ⟨_, rfl, (emod_in (by omega)).1, (emod_in (by omega)).2, rdr_set HO.out HB.out hl hg _⟩
end Go.Proofs.YtnaagdmaggdbmaaGreatDoor
namespace Go.Proofs.YtnaagdmaggdbmaaGreatDoor
open Go.RowKit
theorem byte_info : (Tryz.prog.info? 5).map (fun i => (i.zero, i.size, i.bytes)) = some (some (.int .u8 0), 1, 1) := by kernel_rfl
theorem rdr_grown {B : Nat} {w w' : World} {g p : Nat} (h : Rdr B w g p) (hg : w.grownBy w' none) : Rdr B w' g p := by
 obtain ⟨A, n, c, ho, hb, hn, hB⟩ := h.ok
 refine ⟨A, n, c, (hg.block g ho.lt (by simp)).trans ho, hb.keep fun q hq => World.cell?_of_block (hg.block q.block (by have := ho.lt; omega) (by simp)), hn, hB⟩
theorem rdr_grownb {B : Nat} {w w' : World} {g p k : Nat} (h : Rdr B w g p) (hg : w.grownBy w' (some k)) (hk : g < k) : Rdr B w' g p := by
 obtain ⟨A, n, c, ho, hb, hn, hB⟩ := h.ok
 refine ⟨A, n, c, (hg.block g ho.lt (by simp; omega)).trans ho, hb.keep fun q hq => World.cell?_of_block (hg.block q.block (by have := ho.lt; omega) (by simp; omega)), hn, hB⟩
theorem rdr_alloc {B : Nat} {w : World} {g p : Nat} (h : Rdr B w g p) (o : Obj) : Rdr B (w.alloc o) g p := rdr_grown h (World.grownBy_alloc w o none)
theorem rdr_lt {B : Nat} {w : World} {g p : Nat} (h : Rdr B w g p) : g < w.heap.size := by
 obtain ⟨A, n, c, ho, _⟩ := h.ok
 exact ho.lt
def Numbered (zs : List Int) (B : Nat) (w : World) (g p : Nat) (e : Ending) (w' : World) : Prop :=
 ∃ r : Int, e = .returned (.int .i64 r) ∧ r ∈ zs ∧ Rdr B w' g (p + 1) ∧ w.grownBy w' (some g)
set_option maxRecDepth 100000 in
theorem num_any (B g p g2 : Nat) (zs : List Int) (w : World) (h : Rdr B w g p) (hz : Own w g2 3 (zs.map (Value.int .i64)).toArray) (hne : g2 ≠ g) (hp : p ≤ 1000000) (h1 : 1 ≤ zs.length) (h2 : zs.length ≤ 1000) :
  Calls Tryz.prog 48 #[.pointer (some ⟨g, 0, none⟩), .slice (some ⟨g2, 0, none⟩) zs.length zs.length] w (Numbered zs B w g p) := by
 have HZ := Lib.hid hz
 clear hz
 go_enter Tryz.func48, Tryz.ntmps48
 go_wp2_with fail
 refine (pick_any B g p zs.length w h hp (by omega)).mono ?_
 rintro e w1 ⟨r, rfl, hr0, hr1, hrd, hg⟩
 obtain ⟨i, rfl⟩ := Int.eq_ofNat_of_zero_le hr0
 have hi : i < zs.length := by have := hr1 (by omega); omega
 have hi2 : (i : Int) < (zs.length : Int) := by omega
 have hc : w1.cell? ⟨g2, i, none⟩ = some (.int .i64 zs[i]) := hg.cell (HZ.out.cell_ i (by simp [hi])) (by simp; omega)
 have hm : Hid (zs[i] ∈ zs) := List.getElem_mem hi
 generalize zs[i] = z at hc hm
 clear hr1
 have HRD := Lib.hid hrd
 have HG := Lib.hid hg
 clear hrd hg
 go_wp2
 go_ret
 exact ⟨_, rfl, hm.out, HRD.out, HG.out⟩
end Go.Proofs.YtnaagdmaggdbmaaGreatDoor
namespace Go.Proofs.YtnaagdmaggdbmaaGreatDoor
open Go.RowKit
structure Sz (k : Nat) (m : Ma) : Prop where
 b1 : 1 ≤ m.t.bs.length
 b : m.t.bs.length ≤ k
 f : m.t.fs.length ≤ k
 l : m.c.ls.length ≤ k
 o : m.g.os.length ≤ k
theorem Sz.up {k k' : Nat} {m : Ma} (h : Sz k m) (hk : k ≤ k') : Sz k' m := ⟨h.b1, Nat.le_trans h.b hk, Nat.le_trans h.f hk, Nat.le_trans h.l hk, Nat.le_trans h.o hk⟩
theorem Sz.of {m : Ma} (h : mav m = true) : Sz 16 m := by
 obtain ⟨h1, h2, h3, _⟩ := mav_parts h
 have a := (tv_parts h1).1
 have b := cav_parts h2
 have c := tgv_parts h3
 have d := tok_len c.2 c.1.2.2.1
 exact ⟨by omega, by omega, by omega, by omega, by omega⟩
theorem gr_below {w w' : World} {g : Nat} (hb : Below w.heap.size w w') : w.grownBy w' (some g) := ⟨hb.os, hb.tape, hb.output, hb.size, fun k hk _ => hb.block k hk⟩
theorem rdr_below {B : Nat} {w w' : World} {g p : Nat} (h : Rdr B w g p) (hb : Below w.heap.size w w') : Rdr B w' g p := rdr_grown h ⟨hb.os, hb.tape, hb.output, hb.size, fun k hk _ => hb.block k hk⟩
theorem oth_gr {w w' : World} {g : Nat} {ty : TypeId} {cs : Array Value} (hg : w.grownBy w' (some g)) (ho : Own w g ty cs) : Oth (fun e => e = ty) w w' := by
 refine ⟨hg.size, fun g' e cs' h hne => (hg.block g' h.lt ?_).trans h⟩
 intro hh
 injection hh with hh
 subst hh
 unfold Own at h ho
 rw [ho] at h
 injection h with h
 injection h with _ h2
 exact hne h2.symm
theorem MaM.gr {B B' : Nat} {w w' : World} {g p : Nat} {v1 v2 v3 v4 : Value} {m : Ma} (h : MaM B w v1 v2 v3 v4 m) (hr : Rdr B' w g p) (hg : w.grownBy w' (some g)) : MaM B w' v1 v2 v3 v4 m := by
 obtain ⟨A, n, c, ho, _⟩ := hr.ok
 exact h.oth (oth_gr hg ho) (by decide) (by decide) (by decide) (by decide)
def Drawn (B k : Nat) (w : World) (g p n : Nat) (v : Value) (w' : World) : Prop :=
 ∃ (m : Ma) (v1 v2 v3 v4 : Value) (q : Nat), v = .agg #[v1, v2, v3, .int .i64 m.c.hand, .int .i64 m.g.count, .int .i64 m.g.next, .int .i64 m.g.round, v4, .int .i64 m.sp] ∧ MaM B w' v1 v2 v3 v4 m ∧ Sz k m ∧ Rdr B w' g q ∧ q ≤ p + n ∧ w.grownBy w' (some g)
end Go.Proofs.YtnaagdmaggdbmaaGreatDoor
namespace Go.Proofs.YtnaagdmaggdbmaaGreatDoor
open Go.RowKit
set_option maxRecDepth 1000000
set_option maxHeartbeats 4000000 in
theorem l6Fill_any (vb vf vl vo : Value) (m : Ma) (p : Int) (k : Nat) (w : World) (hM : MaR w vb vf vl vo m) (hm : mav m = true) (hk : k < m.t.fs.length) (hok : filOK m.c (tln m p k) = true) :
  Calls Tryz.prog 145 #[.agg #[vb, vf, vl, .int .i64 m.c.hand, .int .i64 m.g.count, .int .i64 m.g.next, .int .i64 m.g.round, vo, .int .i64 m.sp], .int .i64 p, .int .i64 k, .int .i64 (tagT m m.sp p)] w (Post2 fun v w' => ∃ v1 v2 v3 v4, v = .tuple #[.agg #[v1, v2, v3, .int .i64 ({ m with c := filC m.c (tln m p k) } : Ma).c.hand, .int .i64 ({ m with c := filC m.c (tln m p k) } : Ma).g.count, .int .i64 ({ m with c := filC m.c (tln m p k) } : Ma).g.next, .int .i64 ({ m with c := filC m.c (tln m p k) } : Ma).g.round, v4, .int .i64 ({ m with c := filC m.c (tln m p k) } : Ma).sp], .int .i64 (vic m.c)] ∧ MaM w.heap.size w' v1 v2 v3 v4 { m with c := filC m.c (tln m p k) } ∧ Below w.heap.size w w') := by
 obtain ⟨a1, a2, a3, a4⟩ := mav_len hm
 obtain ⟨W0, hW, hbx, hbo, hb0, hs0⟩ := box2 w #[vb, vf, vl, .int .i64 m.c.hand, .int .i64 m.g.count, .int .i64 m.g.next, .int .i64 m.g.round, vo, .int .i64 m.sp] 34 #[.slice none 0 0, .slice none 0 0, .slice none 0 0, .int .i64 0, .int .i64 0, .int .i64 0, .int .i64 0, .slice none 0 0, .int .i64 0] 34
 obtain ⟨m0q, m1q, m2q, m3q, m4q, m5q, m6q, m7q, m8q⟩ := cells9 hbx
 have HX0 := Lib.hid hbx
 have HO0 := Lib.hid hbo
 have HB0 := Lib.hid hb0
 have HM := Lib.hid hM
 clear hbx hbo hb0 hM
 clear m0q m1q m2q m3q m4q m5q m6q m7q m8q
 go_enter Tryz.func145, Tryz.ntmps145
 obtain ⟨m00, m10, m20, m30, m40, m50, m60, m70, m80⟩ := cells9 HX0.out
 go_wp2_with fail
 refine (l6Copy_any vb vf vl vo m _ (HM.out.now HB0.out) a1 a2 a3 a4).mono ?_
 rintro e w3 ⟨_, rfl, q1, q2, q3, q4, rfl, hM3, hb3⟩
 have hM3' := hM3.mono (B' := w.heap.size + 2) (Nat.le_of_eq hs0.symm)
 have hs3 : w.heap.size + 2 ≤ w3.heap.size := Nat.le_trans (Nat.le_of_eq hs0.symm) hb3.size
 obtain ⟨B1, d1, rfl, _⟩ := hM3.t.b
 obtain ⟨B2, d2, rfl, _⟩ := hM3.t.f
 obtain ⟨B3, d3, rfl, _⟩ := hM3.l
 obtain ⟨B4, d4, rfl, _⟩ := hM3.o
 have HX3 := Lib.hid (HX0.out.below hb3)
 have HR3 := Lib.hid (HO0.out.below hb3)
 have HB3 := Lib.hid (bT HB0.out hb3)
 clear m00 m10 m20 m30 m40 m50 m60 m70 m80
 have ho4 := Own.new_ w3 34 #[.slice B1 m.t.bs.length d1, .slice B2 m.t.fs.length d2, .slice B3 m.c.ls.length d3, .int .i64 m.c.hand, .int .i64 m.g.count, .int .i64 m.g.next, .int .i64 m.g.round, .slice B4 m.g.os.length d4, .int .i64 m.sp]
 have hb4 : Below w3.heap.size w3 (w3.alloc (.cells #[.slice B1 m.t.bs.length d1, .slice B2 m.t.fs.length d2, .slice B3 m.c.ls.length d3, .int .i64 m.c.hand, .int .i64 m.g.count, .int .i64 m.g.next, .int .i64 m.g.round, .slice B4 m.g.os.length d4, .int .i64 m.sp] 34)) := bA bR
 generalize hW4 : w3.alloc (.cells #[.slice B1 m.t.bs.length d1, .slice B2 m.t.fs.length d2, .slice B3 m.c.ls.length d3, .int .i64 m.c.hand, .int .i64 m.g.count, .int .i64 m.g.next, .int .i64 m.g.round, .slice B4 m.g.os.length d4, .int .i64 m.sp] 34) = w4 at ho4 hb4
 have HM4 := Lib.hid (hM3'.now hb4)
 have HO4 := Lib.hid ho4
 have HX4 := Lib.hid (HX3.out.below hb4)
 have HR4 := Lib.hid (HR3.out.below hb4)
 have HB4 := Lib.hid (bT HB3.out hb4)
 have hs4 := hb4.size
 clear hM3 hM3' ho4 hb3 hb4
 obtain ⟨f, ef⟩ : ∃ f, m.t.fs[k]? = some f := ⟨_, List.getElem?_eq_getElem hk⟩
 have HTL : Hid (tln m p k = ⟨true, tagT m m.sp p, p, k, f.r, false⟩) := by show _ = _; unfold tln; rw [Int.toNat_natCast, getD_at ef]
 obtain ⟨Af, cf, rfl, hfc, hfm, hF⟩ := HM.out.t.f
 obtain ⟨bf, of, rfl, hbf, y0, y1, y2, y3, y4⟩ := (hF.now (Nat.le_refl _) HB4.out).fr ef
 have m04 := HX4.out.cell_ 0 (v := vb) rfl
 have m14 := HX4.out.cell_ 1 (v := .slice (some ⟨bf, of, none⟩) m.t.fs.length cf) rfl
 have m24 := HX4.out.cell_ 2 (v := vl) rfl
 have m34 := HX4.out.cell_ 3 (v := .int .i64 m.c.hand) rfl
 have hlx := HX4.out.lt
 have hlo := HO4.out.lt
 clear y0 y1 y2 y4 ef hF
 go_wp2_with fail
 have hox := Own.new_ w4 106 #[.bool true, .int .i64 (tagT m m.sp p), .int .i64 p, .int .i64 k, .int .i64 f.r, .bool false]
 have hb5 : Below w4.heap.size w4 (w4.alloc (.cells #[.bool true, .int .i64 (tagT m m.sp p), .int .i64 p, .int .i64 k, .int .i64 f.r, .bool false] 106)) := bA bR
 generalize hW5 : w4.alloc (.cells #[.bool true, .int .i64 (tagT m m.sp p), .int .i64 p, .int .i64 k, .int .i64 f.r, .bool false] 106) = w5 at hox hb5 ⊢
 have HM5 := Lib.hid (HM4.out.now hb5)
 have HO5 := Lib.hid (HO4.out.below hb5)
 have HX5 := Lib.hid (HX4.out.below hb5)
 have HR5 := Lib.hid (HR4.out.below hb5)
 have HB5 := Lib.hid (bT HB4.out hb5)
 have hs5 := hb5.size
 have HFL := Lib.hid (sFillLine_any vl m.c (tln m p k) w5 (HM.out.l.now HB5.out))
 rw [filOK_true hok, hok, show filA m.c (tln m p k) = vic m.c by unfold filA; rw [hok, if_pos rfl]] at HFL
 clear hb5 hox
 have HFL2 := HFL.out
 rw [show lnV (tln m p k) = .agg #[.bool true, .int .i64 (tagT m m.sp p), .int .i64 p, .int .i64 k, .int .i64 f.r, .bool false] by unfold lnV; rw [HTL.out]] at HFL2
 have HFL := Lib.hid HFL2
 clear HFL2
 generalize hVC : filC m.c (tln m p k) = V at *
 refine HFL.out.mono ?_
 rintro e w6 ⟨_, rfl, v1, rfl, hL6, hb6⟩
 obtain ⟨B5, d5, rfl, hx5, hy5, hz5⟩ := hL6
 have ho7 := Own.new_ w6 29 #[.slice B5 V.ls.length d5, .int .i64 V.hand]
 have hb7 : Below w6.heap.size w6 (w6.alloc (.cells #[.slice B5 V.ls.length d5, .int .i64 V.hand] 29)) := bA bR
 have HL6 : Hid (SlM lnE 106 w5.heap.size w6 (.slice B5 V.ls.length d5) V.ls) := ⟨B5, d5, rfl, hx5, hy5, hz5⟩
 generalize hW7 : w6.alloc (.cells #[.slice B5 V.ls.length d5, .int .i64 V.hand] 29) = w7 at ho7 hb7
 have HM7 := Lib.hid (HM5.out.now (bT hb6 hb7))
 have HO7 := Lib.hid (HO5.out.below (bT hb6 hb7))
 have HR7 := Lib.hid (HR5.out.below (bT hb6 hb7))
 have HB7 := Lib.hid (bT HB5.out (bT hb6 hb7))
 have HL7 := Lib.hid ((HL6.out.now hb7).mono (show w.heap.size + 2 ≤ w5.heap.size by omega))
 have HC7 := Lib.hid ho7
 clear ho7 HL6 hb6 hb7 m04 m14 m24 m34 y3 HFL
 have c0 := HC7.out.cell_ 0 (v := .slice B5 V.ls.length d5) rfl
 have c1 := HC7.out.cell_ 1 (v := .int .i64 V.hand) rfl
 have hlc := HC7.out.lt
 obtain ⟨r0x, r1x, r2x, r3x, r4x, r5x, r6x, r7x, r8x⟩ := cells9 HR7.out
 obtain ⟨z0x, z1x, z2x, z3x, z4x, z5x, z6x, z7x, z8x⟩ := free9 HR7.out
 obtain ⟨p0o, p1o, p2o, p3o, p4o, p5o, p6o, p7o, p8o⟩ := cells9 HO7.out
 have g2 := HO7.out.free 2
 have g3 := HO7.out.free 3
 have hlr := HR7.out.lt
 have hlo7 := HO7.out.lt
 have hrn : w.heap.size + 1 ≠ w3.heap.size := by omega
 have hrm : w3.heap.size ≠ w.heap.size + 1 := by omega
 have hcn : w6.heap.size ≠ w3.heap.size := HC7.out.ne HO7.out (by decide)
 have hcm : w3.heap.size ≠ w6.heap.size := fun h => hcn h.symm
 go_wp2
 have g1 := (HR7.out.far (p := ⟨w3.heap.size, 2, none⟩) (u := .slice B5 V.ls.length d5) hrn).far (p := ⟨w3.heap.size, 3, none⟩) (u := .int .i64 V.hand) hrn
 have hmm : MaM (w.heap.size + 2) w7 (.slice B1 m.t.bs.length d1) (.slice B2 m.t.fs.length d2) (.slice B5 V.ls.length d5) (.slice B4 m.g.os.length d4) { m with c := V } := ⟨HM7.out.t, HL7.out, HM7.out.o⟩
 have hmm2 := (hmm.farT (u := .slice B5 V.ls.length d5) (i := 2) HO7.out).farT (u := .int .i64 V.hand) (i := 3) (HO7.out.set_ 2 (.slice B5 V.ls.length d5))
 have o3 := g1.set9 (.slice B1 m.t.bs.length d1) (.slice B2 m.t.fs.length d2) (.slice B5 V.ls.length d5) (.int .i64 V.hand) (.int .i64 m.g.count) (.int .i64 m.g.next) (.int .i64 m.g.round) (.slice B4 m.g.os.length d4) (.int .i64 m.sp)
 obtain ⟨p0t, p1t, p2t, p3t, p4t, p5t, p6t, p7t, p8t⟩ := cells9 o3
 refine bodyPost_ret (v := .tuple #[.agg #[.slice B1 m.t.bs.length d1, .slice B2 m.t.fs.length d2, .slice B5 V.ls.length d5, .int .i64 ({ m with c := V } : Ma).c.hand, .int .i64 ({ m with c := V } : Ma).g.count, .int .i64 ({ m with c := V } : Ma).g.next, .int .i64 ({ m with c := V } : Ma).g.round, .slice B4 m.g.os.length d4, .int .i64 ({ m with c := V } : Ma).sp], .int .i64 (vic m.c)]) (by simp [results, Tryz.results145, go_sem, p0t, p1t, p2t, p3t, p4t, p5t, p6t, p7t, p8t]) rfl ⟨_, rfl, _, _, _, _, by rw [hVC], ?_, ?_⟩
 ·rw [hVC]
  exact (hmm2.far9 g1 _ _ _ _ _ _ _ _ _).mono (by omega)
 ·repeat (refine bS ?_ (by simp <;> omega))
  exact HB7.out
end Go.Proofs.YtnaagdmaggdbmaaGreatDoor
namespace Go.Proofs.YtnaagdmaggdbmaaGreatDoor
open Go.RowKit
def IsRow (k : IntKind) (w : World) (a : Option Addr) (len cap : Nat) (zs : List Int) : Prop :=
 (a = none ∧ len = 0 ∧ cap = 0 ∧ zs = []) ∨
 ∃ x, a = some x ∧ len ≤ cap ∧ cap ≤ maxLen ∧ zs.length = cap ∧ (∀ i, i < zs.length → w.cell? (x.add i) = some (.int k (zs.getD i 0))) ∧ ∀ n ∈ zs, (Lit.int k n).wf = true
theorem row_cap {w : World} {a : Option Addr} {len cap : Nat} {zs : List Int} (h : IsRow .u8 w a len cap zs) : len ≤ cap := by
 rcases h with ⟨_, rfl, rfl, _⟩ | ⟨x, _, h, _⟩
 ·exact Nat.le_refl _
 ·exact h
theorem wf_u8_in {n : Int} (h : (Lit.int .u8 n).wf = true) : 0 ≤ n ∧ n ≤ 255 := by
 simp [Lit.wf, IntKind.min, IntKind.max, IntKind.signed, IntKind.bits] at h
 omega
theorem row_bytes {w : World} {a : Option Addr} {len cap : Nat} {zs : List Int} (h : IsRow .u8 w a len cap zs) : Bytes w.heap.size w a len := by
 rcases h with ⟨_, rfl, _, _⟩ | ⟨x, rfl, hlc, _, hz, hc, hw⟩
 ·exact ⟨fun j hj => absurd hj (by omega)⟩
 ·refine ⟨fun j hj => ?_⟩
  obtain ⟨b, o, s⟩ := x
  have h0 := hc 0 (by omega)
  have hs : s = none := by simpa [Addr.add] using World.cell?_spot h0
  subst hs
  have h1 := hc j (by omega)
  rw [add_lit_] at h1
  have hm : zs.getD j 0 ∈ zs := by
   have e : zs.getD j 0 = zs[j]'(by omega) := by rw [List.getD_eq_getElem?_getD, List.getElem?_eq_getElem (by omega)]; rfl
   rw [e]; exact List.getElem_mem _
  obtain ⟨h2, h3⟩ := wf_u8_in (hw _ hm)
  obtain ⟨v, hv⟩ := Int.eq_ofNat_of_zero_le h2
  rw [hv] at h1 h3
  exact ⟨b, o, v, rfl, World.block_lt_of_cell? w _ h1, h1, by omega⟩
end Go.Proofs.YtnaagdmaggdbmaaGreatDoor
