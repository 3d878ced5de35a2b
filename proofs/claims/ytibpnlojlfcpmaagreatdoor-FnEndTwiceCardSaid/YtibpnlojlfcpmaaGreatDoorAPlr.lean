/- A part of the proofs of this seat: Plr, PrT. -/
import Derived.Deep.LoopGhost
import Derived.Test.YtibpnlojlfcpmaaGreatDoorAMk
set_option linter.unusedVariables false
set_option linter.unusedSimpArgs false
set_option maxRecDepth 1000000
namespace Go.Proofs.YtibpnlojlfcpmaaGreatDoor
open Go.RowKit
theorem find_set {α : Type} {p : α → Bool} : ∀ {l : List α} {k : Nat} {a b : α}, l[k]? = some a → p b = p a → (l.set k b).findIdx? p = l.findIdx? p
  | [], k, a, b, h, _ => by simp at h
  | x :: l, 0, a, b, h, hp => by
    simp only [List.getElem?_cons_zero, Option.some.injEq] at h
    subst h
    simp only [List.set_cons_zero, List.findIdx?_cons, hp]
  | x :: l, k + 1, a, b, h, hp => by
    simp only [List.getElem?_cons_succ] at h
    simp only [List.set_cons_succ, List.findIdx?_cons, find_set h hp]
theorem find_map {α : Type} {p : α → Bool} {f : α → α} (h : ∀ a, p (f a) = p a) (l : List α) : (l.map f).findIdx? p = l.findIdx? p := by
 rw [List.findIdx?_map]
 congr 1
 exact funext h
theorem fnd_set {fs : List Fr} {i : Nat} {f g : Fr} {s p : Int} (e : fs[i]? = some f) (h : (g.used && decide ((g.s, g.p) = (s, p))) = (f.used && decide ((f.s, f.p) = (s, p)))) : fnd (fs.set i g) s p = fnd fs s p := find_set e h
theorem unm_fnd {t : Tab} {s p s' p' : Int} (h : fOK t s p = true) (hne : (s, p) ≠ (s', p')) : fnd (unmT t s p).fs s' p' = fnd t.fs s' p' := by
 obtain ⟨k, f, h1, h2, h3, h4, h5, _⟩ := fOK_at h
 have hz : (frz.used && decide ((frz.s, frz.p) = (s', p'))) = (f.used && decide ((f.s, f.p) = (s', p'))) := by
  rw [h5, decide_eq_false hne, Bool.and_false]; rfl
 unfold unmT
 simp only [h1, Int.toNat_natCast]
 split
 ·exact fnd_set h3 hz
 ·have hm : fnd (t.fs.map (relink k (t.fs.getD k frz).n)) s' p' = fnd t.fs s' p' := find_map (fun a => by
   obtain ⟨r1, r2, r3⟩ := relink_key k (t.fs.getD k frz).n a
   show ((relink k (t.fs.getD k frz).n a).used && decide (((relink k (t.fs.getD k frz).n a).s, (relink k (t.fs.getD k frz).n a).p) = (s', p'))) = _
   rw [r1, r2, r3]) t.fs
  rw [← hm]
  refine fnd_set (f := relink k (t.fs.getD k frz).n f) (by rw [List.getElem?_map, h3]; rfl) ?_
  obtain ⟨r1, r2, r3⟩ := relink_key k (t.fs.getD k frz).n f
  rw [r1, r2, r3]
  exact hz
theorem takV_c {m : Ma} {s p : Int} (h : takO m s p = true) : (takV m s p).c = drpC m s p ∧ (takV m s p).g = m.g ∧ (takV m s p).sp = m.sp := by
 unfold takV
 rw [if_pos h]
 exact ⟨rfl, rfl, rfl⟩
end Go.Proofs.YtibpnlojlfcpmaaGreatDoor
