/- A part of the proofs of this seat: Plr, PrT. -/
import Derived.Deep.LoopGhost
import Derived.Test.YtibpnlojlfcpmaaGreatDoorAPlr
import Derived.Test.YtibpnlojlfcpmaaGreatDoorAPlrv1
set_option linter.unusedVariables false
set_option linter.unusedSimpArgs false
set_option maxRecDepth 1000000
namespace Go.Proofs.YtibpnlojlfcpmaaGreatDoor
open Go.RowKit
theorem fndI_eq {fs fs' : List Fr} {s p : Int} (h : fnd fs' s p = fnd fs s p) : fndI fs' s p = fndI fs s p := by unfold fndI; rw [h]
theorem bool_iff {a b : Bool} (h : a = true ↔ b = true) : a = b := by cases a <;> cases b <;> simp_all
theorem tak_keeps {m : Ma} {s p s' p' : Int} (h : takO m s p = true) (hne : (s, p) ≠ (s', p')) : takO (takV m s p) s' p' = takO m s' p' := by
 have hv := mav_tak h
 have hm := (takO_iff.1 h).1
 have hf := (takO_iff.1 h).2
 refine bool_iff ?_
 rw [takO_iff, takO_iff, fOK_iff, fOK_iff, takV_t h, fndI_eq (unm_fnd hf hne)]
 have h1 := (mav_parts hv).1
 rw [takV_t h] at h1
 have h2 := (mav_parts hm).1
 rw [hv, hm, h1, h2]
theorem fndI_some {fs : List Fr} {s p : Int} {i : Nat} (h : fnd fs s p = some i) : fndI fs s p = (i : Int) := by unfold fndI; rw [h]
end Go.Proofs.YtibpnlojlfcpmaaGreatDoor
