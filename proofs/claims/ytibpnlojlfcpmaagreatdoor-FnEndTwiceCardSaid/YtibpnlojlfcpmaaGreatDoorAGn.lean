/- A part of the proofs of this seat: Gn, Kr. -/
import Derived.Deep.CutRange
import Derived.Test.YtibpnlojlfcpmaaGreatDoorADpr
import Derived.Test.YtibpnlojlfcpmaaGreatDoorAKyP
set_option linter.unusedVariables false
set_option linter.unusedSimpArgs false
set_option maxRecDepth 1000000
namespace Go.Proofs.YtibpnlojlfcpmaaGreatDoor
open Go.RowKit
section
variable {q : TypeId → Prop} {B n : Nat} {sb : Option Nat} {v v' v'' : World}
theorem GT.set2 {b : Nat} {t : TypeId} {cs : Array Value} (ho : Own v b t cs) (hq : q t) (ht : t ≠ 172) (hB : B ≤ b) (u0 u1 : Value) :
  GT q B (some b) 0 v ((v.setCell ⟨b, 0, none⟩ u0).setCell ⟨b, 1, none⟩ u1) :=
 (GT.set ho hq ht hB).trans (GT.set (ho.set_ 0 u0) hq ht hB)
end
theorem chg_ky : chg 61 := .inr (.inr rfl)
theorem Bytes.up {B B' : Nat} {w : World} {A : Option Addr} {n : Nat} (h : Bytes B w A n) (hB : B ≤ B') : Bytes B' w A n :=
 ⟨fun j hj => let ⟨b, o, v, e, hb, hc, h1⟩ := h.at_ j hj; ⟨b, o, v, e, by omega, hc, h1⟩⟩
end Go.Proofs.YtibpnlojlfcpmaaGreatDoor
