/- A part of the proofs of this seat: Plr. -/
import Derived.Test.YtnaagdmaggdbmaaGreatDoorQMapI
import Derived.Test.YtnaagdmaggdbmaaGreatDoorQPrI
import Derived.Test.YtnaagdmaggdbmaaGreatDoorQKeep
set_option linter.unusedVariables false
set_option linter.unusedSimpArgs false
namespace Go.Proofs.YtnaagdmaggdbmaaGreatDoor
open Go.RowKit
theorem put_parts {s p r : Int} {a : Int} {fs : List Int} {m : Ma} {y : Ma} (h1 : putOK m s p a r = true) (hy : putV m s p a r = y) : ∀ n : Nat, n ≤ fs.length → putN s (p + 1) r fs y n = putN s p r (a :: fs) m (n + 1)
  | 0, _ => by
    have := putN_step (s := s) (p := p) (r := r) (fs := a :: fs) (m := m) (m' := m) (k := 0) (f := a) rfl rfl (by simpa using h1)
    rw [this]
    show some y = _
    rw [← hy]; simp
  | n + 1, hn => by
    have ih := put_parts (fs := fs) h1 hy n (by omega)
    have e1 : p + 1 + (n : Int) = p + ((n + 1 : Nat) : Int) := by omega
    conv => lhs; unfold putN
    conv => rhs; unfold putN
    rw [ih, e1]
    cases putN s p r (a :: fs) m (n + 1) with
    | none => rfl
    | some m' => simp only [List.getElem?_cons_succ]
theorem prg_parts {m x : Ma} {s p r a : Int} {fs : List Int} (h : prgO m s p (a :: fs) r = some x) (hl : 1 ≤ fs.length) :
  ∃ y, prgO m s p [a] r = some y ∧ prgO y s (p + 1) fs r = some x := by
 have hc : mav m = true ∧ 1 ≤ (a :: fs).length ∧ (a :: fs).length ≤ 16 := by
  apply Decidable.byContradiction
  intro hc
  rw [prgO_no hc] at h; cases h
 rw [prgO_yes hc.1 hc.2.1 hc.2.2] at h
 have hlen := hc.2.2
 simp only [List.length_cons] at h hlen
 have h1 : putOK m s p a r = true := by
  cases hp : putOK m s p a r with
  | true => rfl
  | false =>
   have := putN_none (putN_bad (s := s) (p := p) (r := r) (fs := a :: fs) (m := m) (m' := m) (k := 0) (f := a) rfl rfl (by simpa using hp)) (show 0 + 1 ≤ fs.length + 1 by omega)
   rw [h] at this; cases this
 refine ⟨putV m s p a r, ?_, ?_⟩
 ·rw [prgO_yes hc.1 (by simp) (by simp)]
  have := putN_step (s := s) (p := p) (r := r) (fs := [a]) (m := m) (m' := m) (k := 0) (f := a) rfl rfl (by simpa using h1)
  simpa using this
 ·rw [prgO_yes (mav_put h1) hl (by omega), put_parts h1 rfl fs.length (Nat.le_refl _)]
  exact h
end Go.Proofs.YtnaagdmaggdbmaaGreatDoor
