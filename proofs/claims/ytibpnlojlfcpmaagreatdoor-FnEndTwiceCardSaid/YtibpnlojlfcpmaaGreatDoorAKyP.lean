/- A part of the proofs of this seat: KyP. -/
import Derived.Test.YtibpnlojlfcpmaaGreatDoorAL3F
set_option linter.unusedVariables false
set_option linter.unusedSimpArgs false
set_option maxRecDepth 1000000
namespace Go.Proofs.YtibpnlojlfcpmaaGreatDoor
open Go.RowKit
theorem keysL_len (fs : List Fr) : (keysL fs).length ≤ fs.length := List.length_filterMap_le _ _
theorem keysL_mem {fs : List Fr} {x : Key} : x ∈ keysL fs ↔ ∃ (i : Nat) (y : Fr), fs[i]? = some y ∧ y.used = true ∧ (y.s, y.p) = x := by
 unfold keysL
 rw [List.mem_filterMap]
 constructor
 ·rintro ⟨y, hy, h⟩
  obtain ⟨i, hi⟩ := List.mem_iff_getElem?.1 hy
  cases hu : y.used with
  | true => exact ⟨i, y, hi, hu, by simpa [hu] using h⟩
  | false => simp [hu] at h
 ·rintro ⟨i, y, hi, hu, h⟩
  exact ⟨y, List.mem_of_getElem? hi, by simp [hu, h]⟩
theorem kys_len (t : Tab) : (kys t).length ≤ t.fs.length := by
 unfold kys
 split
 ·rw [ksrt_length]; exact keysL_len _
 ·simp
end Go.Proofs.YtibpnlojlfcpmaaGreatDoor
