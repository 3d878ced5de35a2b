/- A part of the proofs of this seat: EndP, Mem, Own, Plr, Row, Srt. -/
import Derived.WalkKit
import Derived.Lib.Hide
import Derived.Deep.QuietTactic
import Derived.BigQuiet
import Derived.Maps.AppendAt
import Derived.Deep.AppendLies
import Derived.RegionTactic
import Derived.OwnWalk
import Derived.Shelf.SlSortCmp.WholeK
import Derived.Shelf.Spec.SlicesGrow
import Derived.Test.YtibpnlojlfcpmaaGreatDoorProg
import Derived.Deep.LoopGhost
import Derived.Test.YtibpnlojlfcpmaaGreatDoorACopyv1
import Derived.Test.YtibpnlojlfcpmaaGreatDoorAKyP
import Derived.Test.YtibpnlojlfcpmaaGreatDoorAPlrv2
set_option linter.unusedVariables false
set_option linter.unusedSimpArgs false
set_option maxRecDepth 1000000
namespace Go.Proofs.YtibpnlojlfcpmaaGreatDoor
open Go.RowKit
theorem Rd.key2 {B : Nat} {w : World} {A : Option Addr} {l : List Key} (h : Ks B w A l) {k : Nat} (hk : k < l.length) :
  ∃ b o x y, A = some ⟨b, o, none⟩ ∧ b < B ∧ w.cell? ⟨b, o + k * 2, none⟩ = some (.int .i64 x) ∧ w.cell? ⟨b, o + k * 2 + 1, none⟩ = some (.int .i64 y) ∧ l[k]? = some (x, y) := by
 obtain ⟨b, o, e, hb, h1, h2⟩ := h.key hk
 exact ⟨b, o, _, _, e, hb, h1, h2, List.getElem?_eq_getElem hk⟩
section
variable {P : Program} (w : World) (t e : TypeId) (i : TypeInfo) (sz : Nat) (A : Option Addr) (n c : Nat)
theorem slice_lo (ht : P.underlying t = some (.slice e)) (hi : P.info? e = some i) (hz : i.size = sz) (lo : Int) (h0 : 0 ≤ lo) (h1 : lo ≤ n) :
  (Instr.slice t (.slice A n c) (some (.int .i64 lo)) none none).run P w = .ok (.slice (cutA A c lo.toNat sz) (n - lo.toNat) (c - lo.toNat)) w := by
 have hc : (0 ≤ lo ∧ lo ≤ (n : Int)) := ⟨h0, h1⟩
 simp [Instr.slice, run_underlying ht, Instr.sliceBounds, Instr.sliceBound, asIntOf, hc, sizeOf, typeInfo, hi, hz, cutA]
end
section
variable {P : Program} (w : World)
theorem zeroCells_one (z : Array Value) (n : Nat) : (Builtin.zeroCells z n).size = n * z.size := by simp [Builtin.zeroCells]
end
namespace Enc
variable {α : Type} (E : Enc α)
theorem cells_drop (l : List α) (i : Nat) : (E.cells l).drop (i * E.sz) = E.cells (l.drop i) := by
 induction i generalizing l with
 | zero => simp
 | succ i ih =>
  cases l with
  | nil => simp [cells]
  | cons x l =>
   have e : (i + 1) * E.sz = E.sz + i * E.sz := by rw [Nat.add_mul]; omega
   rw [List.drop_succ_cons, ← ih l, cells_cons, e, ← List.drop_drop, List.drop_left' (E.len x)]
theorem cells_take (l : List α) (i : Nat) : (E.cells l).take (i * E.sz) = E.cells (l.take i) := by
 induction i generalizing l with
 | zero => simp [cells]
 | succ i ih =>
  cases l with
  | nil => simp [cells]
  | cons x l =>
   have e : (i + 1) * E.sz = E.sz + i * E.sz := by rw [Nat.add_mul]; omega
   rw [List.take_succ_cons, cells_cons, cells_cons, ← ih l, e, List.take_append, E.len, List.take_of_length_le (by rw [E.len]; omega), Nat.add_sub_cancel_left]
end Enc
end Go.Proofs.YtibpnlojlfcpmaaGreatDoor
namespace Go.Proofs.YtibpnlojlfcpmaaGreatDoor
open Go.RowKit
theorem plc_drp {m : Ma} {s a b : Int} (hne : a ≠ b) (t : Int) : plcI (drpC m s a).ls t b = plcI m.c.ls t b := by
 unfold drpC
 split
 ·rename_i h
  obtain ⟨k, x, hk, ex, hx⟩ := plcI_lt h.2
  rw [hk, Int.toNat_natCast]
  have h0 : fits t b lnz = fits t b x := by
   have h1 := (fits_iff.1 hx).2.1
   have : fits t b x = false := by unfold fits; rw [decide_eq_false (show ¬ x.p = b by rw [h1]; exact hne)]; simp
   rw [this]; rfl
  show plcI (m.c.ls.set k lnz) t b = _
  unfold plcI plc
  rw [find_set ex h0]
 ·rfl
theorem set_lnz (l : List Ln) (i j : Nat) : (l.set i lnz).set j lnz = (l.set j lnz).set i lnz := by
 by_cases h : i = j
 ·rw [h]
 ·exact List.set_comm _ _ h
theorem drpC_comm {m : Ma} {T1 T2 : Tab} {s a b : Int} (hne : a ≠ b) : drpC (drpM m T1 s a) s b = drpC (drpM m T2 s b) s a := by
 have e1 : drpC (drpM m T1 s a) s b = if tagO m s b = true ∧ 0 ≤ plcI (drpC m s a).ls (tagT m s b) b then ⟨(drpC m s a).ls.set (plcI (drpC m s a).ls (tagT m s b) b).toNat lnz, (drpC m s a).hand⟩ else drpC m s a := rfl
 have e2 : drpC (drpM m T2 s b) s a = if tagO m s a = true ∧ 0 ≤ plcI (drpC m s b).ls (tagT m s a) a then ⟨(drpC m s b).ls.set (plcI (drpC m s b).ls (tagT m s a) a).toNat lnz, (drpC m s b).hand⟩ else drpC m s b := rfl
 rw [e1, e2, plc_drp hne, plc_drp (fun h => hne h.symm)]
 by_cases hA : tagO m s a = true ∧ 0 ≤ plcI m.c.ls (tagT m s a) a <;> by_cases hB : tagO m s b = true ∧ 0 ≤ plcI m.c.ls (tagT m s b) b
 ·have a1 : drpC m s a = ⟨m.c.ls.set (plcI m.c.ls (tagT m s a) a).toNat lnz, m.c.hand⟩ := by unfold drpC; rw [if_pos hA]
  have b1 : drpC m s b = ⟨m.c.ls.set (plcI m.c.ls (tagT m s b) b).toNat lnz, m.c.hand⟩ := by unfold drpC; rw [if_pos hB]
  rw [if_pos hA, if_pos hB, a1, b1, set_lnz]
 ·have b1 : drpC m s b = m.c := by unfold drpC; rw [if_neg hB]
  have a1 : drpC m s a = ⟨m.c.ls.set (plcI m.c.ls (tagT m s a) a).toNat lnz, m.c.hand⟩ := by unfold drpC; rw [if_pos hA]
  rw [if_pos hA, if_neg hB, a1, b1]
 ·have a1 : drpC m s a = m.c := by unfold drpC; rw [if_neg hA]
  have b1 : drpC m s b = ⟨m.c.ls.set (plcI m.c.ls (tagT m s b) b).toNat lnz, m.c.hand⟩ := by unfold drpC; rw [if_pos hB]
  rw [if_neg hA, if_pos hB, a1, b1]
 ·have a1 : drpC m s a = m.c := by unfold drpC; rw [if_neg hA]
  have b1 : drpC m s b = m.c := by unfold drpC; rw [if_neg hB]
  rw [if_neg hA, if_neg hB, a1, b1]
end Go.Proofs.YtibpnlojlfcpmaaGreatDoor
namespace Go.Proofs
open Go.Shelf
def Tryz.growO_ren : Go.Shelf.Ren := ⟨fun | 4 => 214 | n => n, fun | 22 => 44 | 25 => 126 | 3 => 3 | 4 => 4 | 9 => 9 | 20 => 20 | 0 => 0 | 2 => 3 | n => n, fun | n => n⟩
theorem Tryz.growO : Go.Proofs.Lays8.n4 Tryz.prog Tryz.growO_ren := {
 mixed := by kernel_rfl
 f4 := ⟨Tryz.f214.name, by decide, Tryz.func214.trans (congrArg some (by kernel_rfl))⟩
 t0 := Tryz.underlying0
 a0 := Tryz.isAgg0
 z0 := Tryz.sizeOf0
 v0 := Tryz.zeroValue0
 t3 := Tryz.underlying3
 a3 := Tryz.isAgg3
 z3 := Tryz.sizeOf3
 v3 := Tryz.zeroValue3
 t4 := Tryz.underlying4
 a4 := Tryz.isAgg4
 z4 := Tryz.sizeOf4
 v4 := Tryz.zeroValue4
 t9 := Tryz.underlying9
 a9 := Tryz.isAgg9
 z9 := Tryz.sizeOf9
 v9 := Tryz.zeroValue9
 t20 := Tryz.underlying20
 a20 := Tryz.isAgg20
 z20 := Tryz.sizeOf20
 v20 := Tryz.zeroValue20
 t22 := Tryz.underlying44
 a22 := Tryz.isAgg44
 z22 := Tryz.sizeOf44
 v22 := Tryz.zeroValue44 }
end Go.Proofs
namespace Go.Proofs.YtibpnlojlfcpmaaGreatDoor
open Go.RowKit
def rl1 (i n x : Int) : Int := if x = i then n else x
theorem relink_rl (i n : Int) (f : Fr) : relink i n f = if f.used = true then { f with n := rl1 i n f.n } else f := by
 unfold relink rl1
 cases hu : f.used with
 | false => simp
 | true =>
  by_cases h : f.n = i
  ·simp [h]
  ·obtain ⟨u, s, p, r, n'⟩ := f
   simp only at hu h
   subst hu
   simp [h]
theorem rl1_swap {i j ni nj : Int} (hij : i ≠ j) (h : ¬ (ni = j ∧ nj = i)) (x : Int) : rl1 j (rl1 i ni nj) (rl1 i ni x) = rl1 i (rl1 j nj ni) (rl1 j nj x) := by
 unfold rl1
 by_cases h1 : x = i
 ·subst h1
  rw [if_pos rfl, if_neg hij, if_pos rfl]
  by_cases h2 : ni = j
  ·rw [if_pos h2, if_pos h2, if_neg (fun h3 => h ⟨h2, h3⟩)]
  ·rw [if_neg h2, if_neg h2]
 ·rw [if_neg h1]
  by_cases h2 : x = j
  ·rw [if_pos h2, if_pos h2]
   by_cases h3 : nj = i
   ·rw [if_pos h3, if_pos h3, if_neg (fun h4 => h ⟨h4, h3⟩)]
   ·rw [if_neg h3, if_neg h3]
  ·rw [if_neg h2, if_neg h2, if_neg h1]
def unmF (t : Tab) (i : Nat) : Tab := ⟨t.bs.map (rl1 i (t.fs.getD i frz).n), (t.fs.map (relink i (t.fs.getD i frz).n)).set i frz⟩
theorem unmF_def {t : Tab} {i : Nat} {f : Fr} (e : t.fs[i]? = some f) : unmF t i = ⟨t.bs.map (rl1 i f.n), (t.fs.map (relink i f.n)).set i frz⟩ := by unfold unmF; rw [getD_at e]
theorem TV.bk1 {t : Tab} (T : TV t) {b i : Nat} {ch : List Nat} {f : Fr} (hb : b < t.bs.length) (e : bch t b = some ch) (hi : i ∈ ch) (ef : t.fs[i]? = some f) (hk : kval (f.s, f.p) = true) : b = bkt t f.s f.p := by
 obtain ⟨ch2, e2, hc2⟩ := T.ch b hb
 rw [e] at e2
 injection e2 with e2
 subst e2
 obtain ⟨g, eg, hh⟩ := hok_parts (hc2 i hi)
 rw [ef] at eg
 injection eg with eg
 subst eg
 obtain ⟨_, he⟩ := bkt_in hk T.sz.2.2.1
 omega
theorem TV.bk {t : Tab} (T : TV t) {i : Nat} {f : Fr} (ef : t.fs[i]? = some f) (hu : f.used = true) (hk : kval (f.s, f.p) = true) : ∃ ch, bch t (bkt t f.s f.p) = some ch ∧ i ∈ ch := by
 obtain ⟨b, ch, hb, e, hi⟩ := T.cov i f ef hu
 have := T.bk1 hb e hi ef hk
 subst this
 exact ⟨ch, e, hi⟩
theorem TV.head {t : Tab} (T : TV t) {b i : Nat} {f : Fr} (eb : t.bs[b]? = some (i : Int)) (ef : t.fs[i]? = some f) (hk : kval (f.s, f.p) = true) : b = bkt t f.s f.p ∧ ∃ ch, bch t b = some ch ∧ ∃ r, ch = i :: r := by
 have hb := (List.getElem?_eq_some_iff.1 eb).1
 obtain ⟨ch, e, _⟩ := T.ch b hb
 obtain ⟨x, ex, ec⟩ := bch_some e
 rw [eb] at ex
 injection ex with ex
 subst ex
 obtain ⟨j, k', g, r, h1, _, _, _, _, h6⟩ := chn_cons ec (by omega)
 have : j = i := by omega
 subst this
 exact ⟨T.bk1 hb e (by rw [h6]; simp) ef hk, ch, e, r, h6⟩
theorem unm_form {t : Tab} (T : TV t) {s p : Int} {i : Nat} {f : Fr} (ef : t.fs[i]? = some f) (hu : f.used = true) (hkk : (f.s, f.p) = (s, p)) (hk : kval (s, p) = true) : unmT t s p = unmF t i := by
 have hi := fndI_some (T.fnd ef hu hkk)
 have hil := (List.getElem?_eq_some_iff.1 ef).1
 injection hkk with h1 h2
 subst h1 h2
 obtain ⟨ch, ech, hin⟩ := T.bk ef hu hk
 have hbs : ∀ c x, t.bs[c]? = some x → x = (i : Int) → c = bkt t f.s f.p := fun c x e hx => by
  subst hx
  exact (T.head e ef hk).1
 unfold unmT unmF
 simp only [hi, Int.toNat_natCast, getD_at ef]
 split
 ·rename_i hh
  have hb := (bkt_in hk T.sz.2.2.1).1
  have eb : t.bs[bkt t f.s f.p]? = some (i : Int) := by
   rw [List.getD_eq_getElem?_getD, List.getElem?_eq_getElem hb] at hh
   rw [List.getElem?_eq_getElem hb]
   exact congrArg some hh
  obtain ⟨_, ch2, ech2, r, hr⟩ := T.head eb ef hk
  rw [ech] at ech2
  injection ech2 with ech2
  subst ech2
  congr 1
  ·refine List.ext_getElem? fun c => ?_
   rw [List.getElem?_map]
   by_cases hc : bkt t f.s f.p = c
   ·subst hc
    rw [set_eq hb, eb]
    simp [rl1]
   ·rw [set_ne hc]
    cases ec : t.bs[c]? with
    | none => rfl
    | some x =>
     have : ¬ x = (i : Int) := fun hx => hc (hbs c x ec hx).symm
     simp [rl1, this]
  ·refine List.ext_getElem? fun j => ?_
   by_cases hj : i = j
   ·subst hj
    rw [set_eq hil, set_eq (by rw [List.length_map]; exact hil)]
   ·rw [set_ne hj, set_ne hj, List.getElem?_map]
    cases eg : t.fs[j]? with
    | none => rfl
    | some g =>
     have hne : ¬ (g.used = true ∧ g.n = (i : Int)) := by
      rintro ⟨gu, gn⟩
      obtain ⟨b, ch3, hb3, e3, hj3⟩ := T.cov j g eg gu
      obtain ⟨x, ex, ec⟩ := bch_some e3
      obtain ⟨hi3, a, r3, h3⟩ := chn_next ec hj3 eg gn
      have hbb := T.bk1 hb3 e3 hi3 ef hk
      subst hbb
      rw [ech] at e3
      injection e3 with e3
      subst e3
      have hnd := chn_nodup ec
      rw [hr] at h3 hnd
      cases a with
      | nil =>
       simp only [List.nil_append] at h3
       injection h3 with h3 _
       exact hj h3
      | cons y a =>
       simp only [List.cons_append] at h3
       injection h3 with h3 h4
       rw [h4] at hnd
       simp at hnd
     show some g = some (relink i f.n g)
     unfold relink
     rw [if_neg hne]
 ·rename_i hh
  congr 1
  refine List.ext_getElem? fun c => ?_
  rw [List.getElem?_map]
  cases ec : t.bs[c]? with
  | none => rfl
  | some x =>
   have : ¬ x = (i : Int) := fun hx => by
    have hc := hbs c x ec hx
    subst hc
    rw [List.getD_eq_getElem?_getD, ec] at hh
    exact hh hx
   simp [rl1, this]
theorem TV.two {t : Tab} (T : TV t) {i j : Nat} {f g : Fr} (ef : t.fs[i]? = some f) (eg : t.fs[j]? = some g) (hf : f.used = true) (hg : g.used = true) (h : f.n = (j : Int) ∧ g.n = (i : Int)) : False := by
 obtain ⟨b, ch, hb, e, hi⟩ := T.cov i f ef hf
 obtain ⟨x, ex, ec⟩ := bch_some e
 obtain ⟨_, _, _, a, r, ea, hir⟩ := chn_mem ec i hi
 have hnd := chn_nodup hir
 obtain ⟨i1, k1, f1, r1, q1, _, q3, _, q5, q6⟩ := chn_cons hir (by omega)
 have : i1 = i := by omega
 subst this
 rw [ef] at q3
 injection q3 with q3
 subst q3
 injection q6 with _ q6
 subst q6
 rw [h.1] at q5
 obtain ⟨j1, k2, g1, r2, p1, _, p3, _, p5, p6⟩ := chn_cons q5 (by omega)
 have : j1 = j := by omega
 subst this
 rw [eg] at p3
 injection p3 with p3
 subst p3
 subst p6
 rw [h.2] at p5
 obtain ⟨i2, _, _, r3, s1, _, _, _, _, s6⟩ := chn_cons p5 (by omega)
 have : i2 = i1 := by omega
 subst this
 subst s6
 simp at hnd
theorem relink_swap {i j ni nj : Int} (hij : i ≠ j) (h : ¬ (ni = j ∧ nj = i)) (f : Fr) : relink j (rl1 i ni nj) (relink i ni f) = relink i (rl1 j nj ni) (relink j nj f) := by
 rw [relink_rl i ni f, relink_rl j nj f]
 cases hu : f.used with
 | false =>
  simp only [Bool.false_eq_true, if_false]
  rw [relink_rl, relink_rl, hu]
  simp
 | true =>
  simp only [if_true]
  rw [relink_rl, relink_rl]
  simp only [hu, if_true]
  rw [rl1_swap hij h]
theorem unmF_swap {t : Tab} (T : TV t) {i j : Nat} {f g : Fr} (hij : i ≠ j) (ef : t.fs[i]? = some f) (eg : t.fs[j]? = some g) (hf : f.used = true) (hg : g.used = true) : unmF (unmF t i) j = unmF (unmF t j) i := by
 have hil := (List.getElem?_eq_some_iff.1 ef).1
 have hjl := (List.getElem?_eq_some_iff.1 eg).1
 have hI : (i : Int) ≠ (j : Int) := by omega
 have h2 : ¬ (f.n = (j : Int) ∧ g.n = (i : Int)) := T.two ef eg hf hg
 have e1 : (unmF t i).fs[j]? = some (relink i f.n g) := by
  unfold unmF
  simp only [getD_at ef]
  rw [set_ne hij, List.getElem?_map, eg]; rfl
 have e2 : (unmF t j).fs[i]? = some (relink j g.n f) := by
  unfold unmF
  simp only [getD_at eg]
  rw [set_ne (fun h => hij h.symm), List.getElem?_map, ef]; rfl
 have n1 : (relink i f.n g).n = rl1 i f.n g.n := by rw [relink_rl, if_pos hg]
 have n2 : (relink j g.n f).n = rl1 j g.n f.n := by rw [relink_rl, if_pos hf]
 have z1 : ∀ a b : Int, relink a b frz = frz := fun a b => by rw [relink_rl]; rfl
 have u1 : unmF (unmF t i) j = ⟨(t.bs.map (rl1 i f.n)).map (rl1 j (rl1 i f.n g.n)), (((t.fs.map (relink i f.n)).set i frz).map (relink j (rl1 i f.n g.n))).set j frz⟩ := by
  rw [unmF_def e1, n1, unmF_def ef]
 have u2 : unmF (unmF t j) i = ⟨(t.bs.map (rl1 j g.n)).map (rl1 i (rl1 j g.n f.n)), (((t.fs.map (relink j g.n)).set j frz).map (relink i (rl1 j g.n f.n))).set i frz⟩ := by
  rw [unmF_def e2, n2, unmF_def eg]
 rw [u1, u2]
 congr 1
 ·rw [List.map_map, List.map_map]
  congr 1
  funext x
  exact rl1_swap hI h2 x
 ·refine List.ext_getElem? fun k => ?_
  have hlen1 : ((t.fs.map (relink i f.n)).set i frz).length = t.fs.length := by simp
  have hlen2 : ((t.fs.map (relink j g.n)).set j frz).length = t.fs.length := by simp
  by_cases hkj : j = k
  ·subst hkj
   rw [set_eq (by rw [List.length_map, hlen1]; exact hjl), set_ne hij, List.getElem?_map, set_eq (by rw [List.length_map]; exact hjl)]
   exact congrArg some (z1 _ _).symm
  ·rw [set_ne hkj, List.getElem?_map]
   by_cases hki : i = k
   ·subst hki
    rw [set_eq (by rw [List.length_map]; exact hil), set_eq (by rw [List.length_map, hlen2]; exact hil)]
    exact congrArg some (z1 _ _)
   ·rw [set_ne hki, set_ne hki, List.getElem?_map, List.getElem?_map, set_ne hkj, List.getElem?_map]
    cases t.fs[k]? with
    | none => rfl
    | some y => exact congrArg some (relink_swap hI h2 y)
theorem unm_swap {t : Tab} {s p q : Int} (hv : tv t = true) (hp : fOK t s p = true) (hq : fOK t s q = true) (hne : p ≠ q) (v1 : tv (unmT t s p) = true) (v2 : tv (unmT t s q) = true) : unmT (unmT t s p) s q = unmT (unmT t s q) s p := by
 have T := tv_TV.1 hv
 obtain ⟨i, f, a1, a2, a3, a4, a5, a6⟩ := fOK_at hp
 obtain ⟨j, g, b1, b2, b3, b4, b5, b6⟩ := fOK_at hq
 have hij : i ≠ j := by
  rintro rfl
  rw [a3] at b3
  injection b3 with b3
  subst b3
  rw [a5] at b5
  injection b5 with _ b5
  exact hne b5
 have w1 := unm_form T a3 a4 a5 a6
 have w2 := unm_form T b3 b4 b5 b6
 rw [w1] at v1 ⊢
 rw [w2] at v2 ⊢
 have e1 : (unmF t i).fs[j]? = some (relink i f.n g) := by
  unfold unmF
  simp only [getD_at a3]
  rw [set_ne hij, List.getElem?_map, b3]; rfl
 have e2 : (unmF t j).fs[i]? = some (relink j g.n f) := by
  unfold unmF
  simp only [getD_at b3]
  rw [set_ne (fun h => hij h.symm), List.getElem?_map, a3]; rfl
 obtain ⟨r1, r2, r3⟩ := relink_key i f.n g
 obtain ⟨s1, s2, s3⟩ := relink_key j g.n f
 rw [unm_form (tv_TV.1 v1) e1 (by rw [r1]; exact b4) (by rw [r2, r3]; exact b5) b6, unm_form (tv_TV.1 v2) e2 (by rw [s1]; exact a4) (by rw [s2, s3]; exact a5) a6]
 exact unmF_swap T hij a3 b3 a4 b4
theorem takV_at {m : Ma} {s p : Int} (h : takO m s p = true) : takV m s p = drpM m (unmT m.t s p) s p := by
 unfold takV unmV
 rw [if_pos h, if_pos (takO_iff.1 h).2]
theorem tak_swap {m : Ma} {s p q : Int} (hp : takO m s p = true) (hq : takO m s q = true) (hne : p ≠ q) : takV (takV m s p) s q = takV (takV m s q) s p := by
 have k1 : takO (takV m s p) s q = true := by rw [tak_keeps hp (by intro h; injection h with _ h; exact hne h)]; exact hq
 have k2 : takO (takV m s q) s p = true := by rw [tak_keeps hq (by intro h; injection h with _ h; exact hne h.symm)]; exact hp
 obtain ⟨hm, f1⟩ := takO_iff.1 hp
 have f2 := (takO_iff.1 hq).2
 have v1 := (mav_parts (mav_tak hp)).1
 have v2 := (mav_parts (mav_tak hq)).1
 rw [takV_t hp] at v1
 rw [takV_t hq] at v2
 have hT := unm_swap (mav_parts hm).1 f1 f2 hne v1 v2
 rw [takV_at k1, takV_at k2, takV_t hp, takV_t hq, hT, takV_at hp, takV_at hq]
 have hC := drpC_comm (m := m) (T1 := unmT m.t s p) (T2 := unmT m.t s q) (s := s) hne
 show drpM (drpM m (unmT m.t s p) s p) _ s q = drpM (drpM m (unmT m.t s q) s q) _ s p
 unfold drpM
 unfold drpM at hC
 simp only [hC]
def takL (s : Int) : List Int → Ma → Ma
 | [], m => m
 | p :: l, m => takL s l (takV m s p)
theorem takL_snoc (s p : Int) : ∀ (l : List Int) (m : Ma), takL s (l ++ [p]) m = takV (takL s l m) s p
 | [], m => rfl
 | q :: l, m => takL_snoc s p l (takV m s q)
theorem takO_next {m : Ma} {s q : Int} {l : List Int} (hn : (q :: l).Nodup) (h : ∀ p ∈ q :: l, takO m s p = true) : ∀ p ∈ l, takO (takV m s q) s p = true := fun p hp => by
 rw [tak_keeps (h q (by simp)) (by intro e; injection e with _ e; subst e; exact (List.nodup_cons.1 hn).1 hp)]
 exact h p (by simp [hp])
theorem takL_ok {s p : Int} {l2 : List Int} : ∀ {l1 : List Int} {m : Ma}, (l1 ++ p :: l2).Nodup → (∀ q ∈ l1 ++ p :: l2, takO m s q = true) → takO (takL s l1 m) s p = true
 | [], m, _, h => h p (by simp)
 | q :: l1, m, hn, h => takL_ok (l1 := l1) (m := takV m s q) (List.nodup_cons.1 hn).2 (takO_next hn h)
theorem takL_perm {s : Int} {l l' : List Int} (hp : l.Perm l') : ∀ {m : Ma}, l.Nodup → (∀ p ∈ l, takO m s p = true) → takL s l m = takL s l' m := by
 induction hp with
 | nil => intro m _ _; rfl
 | cons x _ ih => intro m hn h; exact ih (List.nodup_cons.1 hn).2 (takO_next hn h)
 | swap x y l =>
  intro m hn h
  show takL s l (takV (takV m s y) s x) = takL s l (takV (takV m s x) s y)
  rw [tak_swap (h y (by simp)) (h x (by simp)) (by rintro rfl; simp at hn)]
 | trans h1 _ ih1 ih2 =>
  intro m hn h
  rw [ih1 hn h]
  exact ih2 (h1.nodup_iff.1 hn) (fun p hp => h p (h1.mem_iff.2 hp))
structure TlS (s : Int) (l : List Int) (m x : Ma) : Prop where
 v : mav x = true
 g : x.g = m.g
 sp : x.sp = m.sp
 n : x.t.fs.length = m.t.fs.length
 f : ∀ (i : Nat) (f : Fr), m.t.fs[i]? = some f → ∃ y, x.t.fs[i]? = some y ∧ (f.used = true → f.s = s → f.p ∈ l → y.used = false) ∧ (¬ (f.used = true ∧ f.s = s ∧ f.p ∈ l) → y.used = f.used ∧ y.s = f.s ∧ y.p = f.p ∧ y.r = f.r)
theorem unm_at {t : Tab} {s p : Int} (h : fOK t s p = true) {i : Nat} {f : Fr} (e : t.fs[i]? = some f) (T : TV t) : ∃ y, (unmT t s p).fs[i]? = some y ∧ (f.used = true → f.s = s → f.p = p → y = frz) ∧ (¬ (f.used = true ∧ f.s = s ∧ f.p = p) → y.used = f.used ∧ y.s = f.s ∧ y.p = f.p ∧ y.r = f.r) := by
 obtain ⟨k, g, a1, a2, a3, a4, a5, a6⟩ := fOK_at h
 rw [unm_form T a3 a4 a5 a6]
 have hkl := (List.getElem?_eq_some_iff.1 a3).1
 injection a5 with c1 c2
 unfold unmF
 simp only [getD_at a3]
 by_cases hik : k = i
 ·subst hik
  rw [a3] at e
  injection e with e
  subst e
  exact ⟨frz, set_eq (by rw [List.length_map]; exact hkl), fun _ _ _ => rfl, fun hn => absurd ⟨a4, c1, c2⟩ hn⟩
 ·refine ⟨relink k g.n f, by rw [set_ne hik, List.getElem?_map, e]; rfl, fun hu hs hp => ?_, fun _ => ?_⟩
  ·exact absurd (T.key k i g f a3 e a4 hu (by rw [c1, c2, hs, hp])) hik
  ·unfold relink
   split <;> exact ⟨rfl, rfl, rfl, rfl⟩
theorem unm_len {t : Tab} {s p : Int} : (unmT t s p).fs.length = t.fs.length := by
 unfold unmT
 simp only
 split <;> simp
theorem takL_state {s : Int} : ∀ {l : List Int} {m : Ma}, l.Nodup → mav m = true → (∀ p ∈ l, takO m s p = true) → TlS s l m (takL s l m)
  | [], m, _, hm, _ => ⟨hm, rfl, rfl, rfl, fun i f e => ⟨f, e, fun _ _ h => by simp at h, fun _ => ⟨rfl, rfl, rfl, rfl⟩⟩⟩
  | p :: l, m, hn, hm, h => by
    have h0 := h p (by simp)
    have P := takL_state (l := l) (m := takV m s p) (List.nodup_cons.1 hn).2 (mav_tak h0) (takO_next hn h)
    obtain ⟨_, c2, c3⟩ := takV_c h0
    have T := (mav_MV.1 hm).t
    refine ⟨P.v, P.g.trans c2, P.sp.trans c3, ?_, fun i f e => ?_⟩
    · have := P.n
      rw [takV_t h0, unm_len] at this
      exact this
    · obtain ⟨y1, e1, k1, k2⟩ := unm_at (takO_iff.1 h0).2 e T
      rw [← takV_t h0] at e1
      obtain ⟨y, ey, k3, k4⟩ := P.f i y1 e1
      refine ⟨y, ey, fun hu hs hp => ?_, fun hnn => ?_⟩
      · by_cases hpp : f.p = p
        · have hz := k1 hu hs hpp
          have := k4 (by rw [hz]; rintro ⟨h9, _⟩; cases h9)
          rw [this.1, hz]; rfl
        · obtain ⟨d1, d2, d3, _⟩ := k2 (fun hh => hpp hh.2.2)
          exact k3 (by rw [d1]; exact hu) (by rw [d2]; exact hs) (by
            rw [d3]
            rcases List.mem_cons.1 hp with h9 | h9
            · exact absurd h9 hpp
            · exact h9)
      · obtain ⟨d1, d2, d3, d4⟩ := k2 (fun hh => hnn ⟨hh.1, hh.2.1, by rw [hh.2.2]; simp⟩)
        obtain ⟨d5, d6, d7, d8⟩ := k4 (fun hh => hnn ⟨by rw [← d1]; exact hh.1, by rw [← d2]; exact hh.2.1, by rw [← d3]; simp [hh.2.2]⟩)
        exact ⟨d5.trans d1, d6.trans d2, d7.trans d3, d8.trans d4⟩
def pgs (s : Int) (ks : List Key) : List Int := ks.filterMap (fun k => if k.1 = s then some k.2 else none)
theorem pgs_mem {s p : Int} {ks : List Key} : p ∈ pgs s ks ↔ (s, p) ∈ ks := by
 unfold pgs
 rw [List.mem_filterMap]
 constructor
 ·rintro ⟨⟨a, b⟩, h1, h2⟩
  by_cases h : a = s
  ·subst h
   simp at h2
   subst h2
   exact h1
  ·simp [h] at h2
 ·intro h
  exact ⟨(s, p), h, by simp⟩
theorem pgs_snoc (s : Int) (ks : List Key) (k : Key) : pgs s (ks ++ [k]) = pgs s ks ++ (if k.1 = s then [k.2] else []) := by
 unfold pgs
 rw [List.filterMap_append]
 congr 1
 by_cases h : k.1 = s
 ·simp [h]
 ·simp [h]
theorem keysL_nodup {t : Tab} (T : TV t) : (keysL t.fs).Nodup := by
 unfold keysL List.Nodup
 rw [List.pairwise_filterMap, List.pairwise_iff_getElem]
 intro i j hi hj hij b hb b' hb' he
 cases hu : t.fs[i].used with
 | false => rw [hu] at hb; cases hb
 | true =>
  cases hu' : t.fs[j].used with
  | false => rw [hu'] at hb'; cases hb'
  | true =>
   rw [hu] at hb
   rw [hu'] at hb'
   simp only [if_true] at hb hb'
   injection hb with hb
   injection hb' with hb'
   have := T.key i j _ _ (List.getElem?_eq_getElem hi) (List.getElem?_eq_getElem hj) hu hu' (by rw [hb, hb', he])
   omega
theorem pgs_nodup {s : Int} {ks : List Key} (h : ks.Nodup) : (pgs s ks).Nodup := by
 unfold pgs List.Nodup
 rw [List.pairwise_filterMap]
 refine h.imp ?_
 rintro ⟨a, b⟩ ⟨c, d⟩ hne x hx y hy he
 simp only at hx hy
 split at hx
 ·split at hy
  ·injection hx with hx
   injection hy with hy
   rename_i h1 h2
   exact hne (by rw [h1, h2, hx, hy, he])
  ·cases hy
 ·cases hx
theorem keys_takO {m : Ma} (hm : mav m = true) {s p : Int} (h : (s, p) ∈ keysL m.t.fs) : takO m s p = true := by
 have M := mav_MV.1 hm
 obtain ⟨i, y, e1, e2, e3⟩ := keysL_mem.1 h
 have htv := (mav_parts hm).1
 refine takO_iff.2 ⟨hm, fOK_iff.2 ⟨htv, ?_, by rw [fndI_some (M.t.fnd e1 e2 e3)]; omega⟩⟩
 have h1 := M.t.ok i y e1
 unfold frok at h1
 rw [if_pos e2, Bool.and_eq_true, e3] at h1
 exact h1.1
def endO (m : Ma) (s : Int) : Bool := mav m && (decide (1 ≤ s) && decide (s < 16)) && !decide (s = m.sp)
def endA (m : Ma) (s : Int) : Ma := takL s (pgs s (keysL m.t.fs)) m
def lvC (g : Tg) (s : Int) : Tg := ⟨g.count, g.next, g.round, g.os.eraseIdx (ownI g.os s).toNat⟩
def lvV (g : Tg) (s : Int) : Tg := if tgO g s = true then lvC g s else tgz
def lvG (g : Tg) (s : Int) : Tg := if tgO g s = true then lvC g s else g
def endV (m : Ma) (s : Int) : Ma := if endO m s = true then { endA m s with g := lvG m.g s } else maz
theorem endO_no {m : Ma} {s : Int} (h : endO m s = false) : endV m s = maz := by unfold endV; rw [h]; rfl
theorem endV_at {m : Ma} {s : Int} (h : endO m s = true) : endV m s = { endA m s with g := lvG m.g s } := by unfold endV; rw [if_pos h]
theorem endA_state {m : Ma} (hm : mav m = true) (s : Int) : TlS s (pgs s (keysL m.t.fs)) m (endA m s) :=
 takL_state (pgs_nodup (keysL_nodup (mav_MV.1 hm).t)) hm (fun _ hp => keys_takO hm (pgs_mem.1 hp))
theorem end_next {m : Ma} (hm : mav m = true) {s p : Int} {ks a r : List Key} (hp : ks.Perm (keysL m.t.fs)) (he : ks = a ++ (s, p) :: r) : takO (takL s (pgs s a) m) s p = true ∧ takL s (pgs s (a ++ [(s, p)])) m = takV (takL s (pgs s a) m) s p := by
 have hn : ks.Nodup := hp.nodup_iff.2 (keysL_nodup (mav_MV.1 hm).t)
 have hpg : pgs s ks = pgs s a ++ p :: pgs s r := by
  rw [he]
  unfold pgs
  rw [List.filterMap_append, List.filterMap_cons]
  simp
 refine ⟨?_, ?_⟩
 ·have h1 := pgs_nodup (s := s) hn
  rw [hpg] at h1
  refine takL_ok h1 (fun q hq => ?_)
  rw [← hpg] at hq
  exact keys_takO hm (hp.mem_iff.1 (pgs_mem.1 hq))
 ·rw [pgs_snoc, if_pos rfl, takL_snoc]
theorem end_skip {m : Ma} {s : Int} {a : List Key} {k : Key} (h : k.1 ≠ s) : takL s (pgs s (a ++ [k])) m = takL s (pgs s a) m := by rw [pgs_snoc, if_neg h, List.append_nil]
theorem end_all {m : Ma} (hm : mav m = true) {s : Int} {ks : List Key} (hp : ks.Perm (keysL m.t.fs)) : takL s (pgs s ks) m = endA m s := by
 have hq : (pgs s ks).Perm (pgs s (keysL m.t.fs)) := by unfold pgs; exact hp.filterMap _
 exact takL_perm hq (pgs_nodup (hp.nodup_iff.2 (keysL_nodup (mav_MV.1 hm).t))) (fun q h => keys_takO hm (hp.mem_iff.1 (pgs_mem.1 h)))
theorem kys_perm {t : Tab} (h : tv t = true) : (kys t).Perm (keysL t.fs) := by unfold kys; rw [if_pos h]; exact ksrt_perm _
theorem tok_iff {os : List (Int × Int)} {n : Int} : tok os n os.length = true ↔ (∀ o ∈ os, inR o.1 16 = true ∧ 0 ≤ o.2 ∧ o.2 < n) ∧ os.Pairwise (fun q o => q.2 < o.2 ∧ ¬ q.1 = o.1) := by
 constructor
 ·intro h
  refine ⟨fun o ho => ?_, ?_⟩
  ·obtain ⟨k, hk, e⟩ := List.getElem_of_mem ho
   obtain ⟨o', e', h1, h2, h3, _⟩ := tok_at h hk
   rw [List.getElem?_eq_getElem hk, e] at e'
   injection e' with e'
   subst e'
   exact ⟨h1, h2, h3⟩
  ·rw [List.pairwise_iff_getElem]
   intro i j hi hj hij
   obtain ⟨o', e', _, _, _, h4, h5⟩ := tok_at h hj
   rw [List.getElem?_eq_getElem hj] at e'
   injection e' with e'
   subst e'
   have h6 := tlast_top (tok_pre (Nat.le_of_lt hj) h) i _ hij (List.getElem?_eq_getElem hi)
   exact ⟨by omega, h5 i _ hij (List.getElem?_eq_getElem hi)⟩
 ·rintro ⟨h1, h2⟩
  rw [List.pairwise_iff_getElem] at h2
  have all : ∀ k, k ≤ os.length → tok os n k = true := by
   intro k
   induction k with
   | zero => intro _; rfl
   | succ k ih =>
    intro hk
    obtain ⟨a1, a2, a3⟩ := h1 os[k] (List.getElem_mem _)
    refine tok_step (ih (by omega)) (List.getElem?_eq_getElem (by omega)) a1 a3 ?_ (fun r q hr hq => ?_)
    ·cases k with
     | zero => rw [tlast_0]; omega
     | succ j =>
      rw [tlast_of (List.getElem?_eq_getElem (show j < os.length by omega))]
      exact (h2 j (j + 1) (by omega) (by omega) (by omega)).1
    ·rw [List.getElem?_eq_getElem (show r < os.length by omega)] at hq
     injection hq with hq
     rw [← hq]
     exact (h2 r k (by omega) (by omega) hr).2
  exact all _ (Nat.le_refl _)
theorem own_mem {os : List (Int × Int)} {s : Int} {o : Int × Int} (h : o ∈ os) (hs : o.1 = s) : 0 ≤ ownI os s := by
 unfold ownI own
 cases e : os.findIdx? (fun o => decide (o.1 = s)) with
 | some i => simp
 | none =>
  rw [List.findIdx?_eq_none_iff] at e
  have := e o h
  simp [hs] at this
theorem lvC_parts {g : Tg} {s : Int} (h : tgO g s = true) : tgv (lvC g s) = true ∧ ownI (lvC g s).os s = -1 ∧ (∀ o ∈ g.os, o.1 ≠ s → o ∈ (lvC g s).os) ∧ ∀ o ∈ (lvC g s).os, o ∈ g.os := by
 unfold tgO at h
 rw [Bool.and_eq_true] at h
 obtain ⟨hg, ho⟩ := h
 obtain ⟨k, o, e1, e2, e3⟩ := ownI_lt (of_decide_eq_true ho)
 obtain ⟨hb, ht⟩ := tgv_parts hg
 obtain ⟨t1, t2⟩ := tok_iff.1 ht
 have hos : (lvC g s).os = g.os.eraseIdx k := by unfold lvC; rw [e1, Int.toNat_natCast]
 have hsub : (g.os.eraseIdx k).Sublist g.os := List.eraseIdx_sublist _ _
 refine ⟨?_, ?_, fun o' ho' hs => ?_, fun o' ho' => ?_⟩
 ·refine tgv_end (tgb_iff.2 hb) ?_
  show tok (lvC g s).os g.next (lvC g s).os.length = true
  rw [hos]
  exact tok_iff.2 ⟨fun q hq => t1 q (hsub.subset hq), t2.sublist hsub⟩
 ·rw [hos]
  refine own_none (n := (g.os.eraseIdx k).length) (Nat.le_refl _) (fun j q hj hq hqs => ?_)
  obtain ⟨i, hik, hi⟩ := List.mem_eraseIdx_iff_getElem?.1 (List.mem_of_getElem? hq)
  rw [List.pairwise_iff_getElem] at t2
  have hkl := (List.getElem?_eq_some_iff.1 e2)
  have hil := (List.getElem?_eq_some_iff.1 hi)
  obtain ⟨k1, k2⟩ := hkl
  obtain ⟨i1, i2⟩ := hil
  rcases Nat.lt_or_gt_of_ne hik with hlt | hgt
  ·exact (t2 i k i1 k1 hlt).2 (by rw [i2, k2, hqs, e3])
  ·exact (t2 k i k1 i1 hgt).2 (by rw [i2, k2, hqs, e3])
 ·rw [hos]
  obtain ⟨j, hj, e⟩ := List.getElem_of_mem ho'
  refine List.mem_eraseIdx_iff_getElem?.2 ⟨j, ?_, by rw [List.getElem?_eq_getElem hj, e]⟩
  rintro rfl
  rw [List.getElem?_eq_getElem hj] at e2
  injection e2 with e2
  rw [e2] at e
  exact hs (by rw [← e]; exact e3)
 ·rw [hos] at ho'
  exact hsub.subset ho'
theorem end_parts {m : Ma} {s : Int} (h : endO m s = true) : mav m = true ∧ (1 ≤ s ∧ s < 16) ∧ s ≠ m.sp ∧ mav (endV m s) = true ∧ (endV m s).sp = m.sp ∧ (endV m s).t = (endA m s).t ∧ tgO (endV m s).g s = false ∧ (endV m s).t.fs.length = m.t.fs.length ∧
  ∀ (i : Nat) (f : Fr), m.t.fs[i]? = some f → ∃ y, (endV m s).t.fs[i]? = some y ∧ (f.used = true → f.s = s → y.used = false) ∧ (¬ (f.used = true ∧ f.s = s) → y.used = f.used ∧ y.s = f.s ∧ y.p = f.p ∧ y.r = f.r) := by
 have hV : endV m s = { endA m s with g := lvG m.g s } := by unfold endV; rw [if_pos h]
 unfold endO at h
 simp only [Bool.and_eq_true, decide_eq_true_eq, Bool.not_eq_true', decide_eq_false_iff_not] at h
 obtain ⟨⟨hm, hs1, hs2⟩, hsp⟩ := h
 have P := endA_state hm s
 have M := mav_MV.1 P.v
 have hfr : ∀ (i : Nat) (f : Fr), m.t.fs[i]? = some f → ∃ y, (endA m s).t.fs[i]? = some y ∧ (f.used = true → f.s = s → y.used = false) ∧ (¬ (f.used = true ∧ f.s = s) → y.used = f.used ∧ y.s = f.s ∧ y.p = f.p ∧ y.r = f.r) := fun i f e => by
  obtain ⟨y, ey, k1, k2⟩ := P.f i f e
  refine ⟨y, ey, fun hu hs => k1 hu hs (pgs_mem.2 (keysL_mem.2 ⟨i, f, e, hu, by rw [hs]⟩)), fun hn => k2 (fun hh => hn ⟨hh.1, hh.2.1⟩)⟩
 have hgone : ∀ q, fnd (endA m s).t.fs s q = none := fun q => by
  cases e : fnd (endA m s).t.fs s q with
  | none => rfl
  | some j =>
   exfalso
   obtain ⟨y, ey, hu, hk⟩ := fnd_some e
   injection hk with hk1 hk2
   have hj := (List.getElem?_eq_some_iff.1 ey).1
   rw [P.n] at hj
   obtain ⟨z, ez, k1, k2⟩ := hfr j _ (List.getElem?_eq_getElem hj)
   rw [ey] at ez
   injection ez with ez
   subst ez
   by_cases hc : m.t.fs[j].used = true ∧ m.t.fs[j].s = s
   ·have := k1 hc.1 hc.2
    rw [hu] at this; cases this
   ·obtain ⟨d1, d2, _⟩ := k2 hc
    exact hc ⟨by rw [← d1]; exact hu, by rw [← d2]; exact hk1⟩
 rw [hV]
 have hg : (endA m s).g = m.g := P.g
 refine ⟨hm, ⟨hs1, hs2⟩, hsp, ?_, P.sp, rfl, ?_, P.n, hfr⟩
 ·unfold lvG
  cases hO : tgO m.g s with
  | false =>
   have : ({ endA m s with g := if false = true then lvC m.g s else m.g } : Ma) = endA m s := by
    simp only [Bool.false_eq_true, if_false]
    rw [← hg]
   rw [this]
   exact P.v
  | true =>
   simp only [if_true]
   obtain ⟨c1, c2, c3, c4⟩ := lvC_parts hO
   refine mav_MV.2 ⟨M.t, M.c, c1, ?_, M.f, fun j x ex => ?_⟩
   ·obtain ⟨k, o, e1, e2, e3⟩ := ownI_lt M.o
    rw [hg] at e2
    show 0 ≤ ownI (lvC m.g s).os (endA m s).sp
    exact own_mem (c3 o (List.mem_of_getElem? e2) (by rw [e3, P.sp]; exact fun h => hsp h.symm)) e3
   ·cases hv : x.v with
    | false => exact lnM_inv hv
    | true =>
     obtain ⟨s0, i, a1, a2, a3, a4, a5, a6⟩ := lnM_some hv (M.l j x ex)
     refine lnM_mk (s := s0) (i := i) ?_ a2 a3 a4 a5 a6
     unfold lnSp at a1 ⊢
     split at a1
     ·rename_i h128
      rw [if_pos h128]; exact a1
     ·rename_i h128
      rw [if_neg h128]
      rw [hg] at a1
      cases hsp2 : spc m.g.os x.t with
      | none => rw [hsp2] at a1; cases a1
      | some k =>
       rw [hsp2] at a1
       have hk : k < m.g.os.length := by
        unfold spc at hsp2
        exact (List.findIdx?_eq_some_iff_getElem.1 hsp2).1
       have ek : m.g.os[k]? = some m.g.os[k] := List.getElem?_eq_getElem hk
       have hkt : m.g.os[k].2 = x.t := by
        unfold spc at hsp2
        obtain ⟨_, h2, _⟩ := List.findIdx?_eq_some_iff_getElem.1 hsp2
        exact of_decide_eq_true h2
       simp only [List.getD_eq_getElem?_getD, ek] at a1
       injection a1 with a1
       have a1' : m.g.os[k].1 = s0 := a1
       have hne : m.g.os[k].1 ≠ s := fun h => by
        rw [a1'] at h
        subst h
        have : keyI s0 x.p = s0 := by unfold keyI; rw [if_neg h128]
        rw [this, hgone] at a2
        cases a2
       obtain ⟨k', hk', e'⟩ := List.getElem_of_mem (c3 _ (List.getElem_mem hk) hne)
       have ek' : (lvC m.g s).os[k']? = some m.g.os[k] := by rw [List.getElem?_eq_getElem hk', e']
       have h9 := spc_own c1 ek'
       rw [hkt] at h9
       show (match spc (lvC m.g s).os x.t with | some i => some ((lvC m.g s).os.getD i (0, 0)).1 | none => none) = some s0
       rw [h9]
       simp only [List.getD_eq_getElem?_getD, ek']
       exact congrArg some a1'
 ·unfold lvG
  cases hO : tgO m.g s with
  | false => simpa using hO
  | true =>
   simp only [if_true]
   unfold tgO
   rw [(lvC_parts hO).2.1]
   simp
end Go.Proofs.YtibpnlojlfcpmaaGreatDoor
