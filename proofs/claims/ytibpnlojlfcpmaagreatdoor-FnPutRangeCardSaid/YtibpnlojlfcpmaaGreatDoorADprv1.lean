/- A part of the proofs of this seat: Dpr, Gn, PrT. -/
import Derived.Test.YtibpnlojlfcpmaaGreatDoorADpr
set_option linter.unusedVariables false
set_option linter.unusedSimpArgs false
set_option maxRecDepth 1000000
namespace Go.Proofs.YtibpnlojlfcpmaaGreatDoor
open Go.RowKit
def KI.no : KI where
 rd := []
 P := fun _ _ => True
 loc := fun _ _ _ _ _ => trivial
 keep := fun _ _ _ _ _ => trivial
section
variable {q : TypeId → Prop} {B : Nat} {nums : List Nat} {S : List SBx}
def KG.no : KG q B nums S where
 rd := []
 P := fun _ _ _ => True
 loc := fun _ _ _ _ _ _ => trivial
 keep := fun _ _ _ _ _ _ _ _ => trivial
end
theorem chg_ma : chg 48 := .inr (.inl rfl)
theorem keysL_count : ∀ fs : List Fr, (keysL fs).length = fs.countP (·.used)
  | [] => rfl
  | y :: l => by
    have ih := keysL_count l
    unfold keysL at ih ⊢
    rw [List.countP_cons, List.filterMap_cons]
    cases hu : y.used with
    | true => simp [ih]
    | false => simp [ih]
theorem kys_count {t : Tab} (h : tv t = true) : (kys t).length = t.fs.countP (·.used) := by
 unfold kys
 rw [if_pos h, ksrt_length, keysL_count]
theorem count_set : ∀ {fs : List Fr} {i : Nat} {f : Fr} (g : Fr), fs[i]? = some f → (fs.set i g).countP (·.used) + (if f.used = true then 1 else 0) = fs.countP (·.used) + (if g.used = true then 1 else 0)
  | [], i, f, g, e => by simp at e
  | x :: l, 0, f, g, e => by
    simp only [List.getElem?_cons_zero, Option.some.injEq] at e
    subst e
    rw [List.set_cons_zero, List.countP_cons, List.countP_cons]
    omega
  | x :: l, i + 1, f, g, e => by
    simp only [List.getElem?_cons_succ] at e
    have ih := count_set g e
    rw [List.set_cons_succ, List.countP_cons, List.countP_cons]
    omega
theorem count_relink (i n : Int) : ∀ fs : List Fr, (fs.map (relink i n)).countP (·.used) = fs.countP (·.used)
  | [] => rfl
  | x :: l => by
    rw [List.map_cons, List.countP_cons, List.countP_cons, count_relink i n l, (relink_key i n x).1]
theorem unm_count {t : Tab} {s p : Int} (h : fOK t s p = true) : (unmT t s p).fs.countP (·.used) + 1 = t.fs.countP (·.used) := by
 obtain ⟨k, f, h1, h2, h3, h4, h5, _⟩ := fOK_at h
 unfold unmT
 simp only [h1, Int.toNat_natCast]
 split
 ·have := count_set frz h3
  rw [if_pos h4, if_neg (by decide)] at this
  simpa using this
 ·have e : (t.fs.map (relink k (t.fs.getD k frz).n))[k]? = some (relink k (t.fs.getD k frz).n f) := by rw [List.getElem?_map, h3]; rfl
  have := count_set frz e
  rw [count_relink, if_pos (by rw [(relink_key k (t.fs.getD k frz).n f).1]; exact h4), if_neg (by decide)] at this
  simpa using this
theorem unm_gone {t : Tab} {s p : Int} (hv : tv t = true) (h : fOK t s p = true) : fnd (unmT t s p).fs s p = none := by
 obtain ⟨k, f, h1, h2, h3, h4, h5, h6⟩ := fOK_at h
 have hkl := (List.getElem?_eq_some_iff.1 h3).1
 cases e : fnd (unmT t s p).fs s p with
 | none => rfl
 | some j =>
  obtain ⟨g, e1, e2, e3⟩ := fnd_some e
  exfalso
  have hj : j = k := by
   have hg : ∃ g', t.fs[j]? = some g' ∧ (j ≠ k → g'.used = true ∧ (g'.s, g'.p) = (s, p)) := by
    unfold unmT at e1
    simp only [h1, Int.toNat_natCast] at e1
    split at e1
    ·by_cases hjk : j = k
     ·subst hjk; exact ⟨f, h3, fun h => absurd rfl h⟩
     ·simp only at e1
      rw [set_ne (fun h => hjk h.symm)] at e1
      exact ⟨g, e1, fun _ => ⟨e2, e3⟩⟩
    ·by_cases hjk : j = k
     ·subst hjk; exact ⟨f, h3, fun h => absurd rfl h⟩
     ·simp only at e1
      rw [set_ne (fun h => hjk h.symm), List.getElem?_map] at e1
      cases eg : t.fs[j]? with
      | none => rw [eg] at e1; cases e1
      | some g' =>
       rw [eg] at e1
       injection e1 with e1
       obtain ⟨r1, r2, r3⟩ := relink_key k (t.fs.getD k frz).n g'
       subst e1
       rw [r1] at e2
       rw [r2, r3] at e3
       exact ⟨g', rfl, fun _ => ⟨e2, e3⟩⟩
   obtain ⟨g', eg, hg'⟩ := hg
   apply Decidable.byContradiction
   intro hjk
   obtain ⟨u1, u2⟩ := hg' hjk
   exact hjk ((tv_TV.1 hv).key j k g' f eg h3 u1 h4 (u2.trans h5.symm))
  subst hj
  have hz : (unmT t s p).fs[j]? = some frz := by
   unfold unmT
   simp only [h1, Int.toNat_natCast]
   split
   ·exact set_eq hkl
   ·exact set_eq (by rw [List.length_map]; exact hkl)
  rw [hz] at e1
  injection e1 with e1
  rw [← e1] at e2
  cases e2
end Go.Proofs.YtibpnlojlfcpmaaGreatDoor
