/-
  DERIVED. GIVEN WITH THE SEED: THE CARDS: each row of YtkmocongdkacjaaGreatDoorRows.lean that lists a variable, with what it lists TIED to the program's text (the seventh form; the later family's looks); each row that meets fmt, with fmt's text TOLD by the authors' own Lean function (tested against real Go, not proved from fmt's source: count such statements apart). THE CARD IS WHAT COUNTS. Prove the row's statement (the work); the ties are given (YtkmocongdkacjaaGreatDoorTie.lean); close each card by the builder's one call (the guide's Derived/Test/ToyasCard.lean, 'card_holds'). Laid BY PROGRAM, IN A SANDBOX (cutbox-door.mjs). By AI agents, Wed Nov 11 2026. No macro, syntax, notation, axiom, sorry.
-/
import Derived.Test.YtkmocongdkacjaaGreatDoorRows
import GoSem.ClaimSeven
namespace Go.Proofs.YtkmocongdkacjaaGreatDoor
namespace Rows

/-- THE TIED CARD OF 'laws.FnPutParts'. -/
def fnPutPartsCard : Claim7 := { stood := { row := fnPutPartsRow, standIns := [], harness := (true, "d3fb1dab74d4de93346e5c6523bea93b9d9ac4ee33523e5d7f68d95f68271bbc"), looks := false }, kinds := [], alts := [], laidByText := true, laidKinds := [.data], laidTests := true, laidLooks := .later }
def FnPutPartsCardSaid : Prop := Claim7.holds Tryz.pinned (.plain (OpenSpec.ofChange fnPutPartsSpec)) fnPutPartsCard

/-- THE TIED CARD OF 'laws.FnExactPutRange'. -/
def fnExactPutRangeCard : Claim7 := { stood := { row := fnExactPutRangeRow, standIns := [], harness := (true, "d3fb1dab74d4de93346e5c6523bea93b9d9ac4ee33523e5d7f68d95f68271bbc"), looks := false }, kinds := [], alts := [], laidByText := true, laidKinds := [.data], laidTests := true, laidLooks := .later }
def FnExactPutRangeCardSaid : Prop := Claim7.holds Tryz.pinned (.plain (OpenSpec.ofChange fnExactPutRangeSpec)) fnExactPutRangeCard

/-- THE TIED CARD OF 'laws.FnGuardOne'. -/
def fnGuardOneCard : Claim7 := { stood := { row := fnGuardOneRow, standIns := [], harness := (true, "d3fb1dab74d4de93346e5c6523bea93b9d9ac4ee33523e5d7f68d95f68271bbc"), looks := false }, kinds := [], alts := [], laidByText := true, laidKinds := [.data], laidTests := true, laidLooks := .later }
def FnGuardOneCardSaid : Prop := Claim7.holds Tryz.pinned (.plain (OpenSpec.ofChange fnGuardOneSpec)) fnGuardOneCard

/-- THE TIED CARD OF 'laws.FnGuardRange'. -/
def fnGuardRangeCard : Claim7 := { stood := { row := fnGuardRangeRow, standIns := [], harness := (true, "d3fb1dab74d4de93346e5c6523bea93b9d9ac4ee33523e5d7f68d95f68271bbc"), looks := false }, kinds := [], alts := [], laidByText := true, laidKinds := [.data], laidTests := true, laidLooks := .later }
def FnGuardRangeCardSaid : Prop := Claim7.holds Tryz.pinned (.plain (OpenSpec.ofChange fnGuardRangeSpec)) fnGuardRangeCard

/-- THE TIED CARD OF 'laws.FnTakeOne'. -/
def fnTakeOneCard : Claim7 := { stood := { row := fnTakeOneRow, standIns := [], harness := (true, "d3fb1dab74d4de93346e5c6523bea93b9d9ac4ee33523e5d7f68d95f68271bbc"), looks := false }, kinds := [], alts := [], laidByText := true, laidKinds := [.data], laidTests := true, laidLooks := .later }
def FnTakeOneCardSaid : Prop := Claim7.holds Tryz.pinned (.plain (OpenSpec.ofChange fnTakeOneSpec)) fnTakeOneCard

/-- THE TIED CARD OF 'laws.FnExactGuardRange'. -/
def fnExactGuardRangeCard : Claim7 := { stood := { row := fnExactGuardRangeRow, standIns := [], harness := (true, "d3fb1dab74d4de93346e5c6523bea93b9d9ac4ee33523e5d7f68d95f68271bbc"), looks := false }, kinds := [], alts := [], laidByText := true, laidKinds := [.data], laidTests := true, laidLooks := .later }
def FnExactGuardRangeCardSaid : Prop := Claim7.holds Tryz.pinned (.plain (OpenSpec.ofChange fnExactGuardRangeSpec)) fnExactGuardRangeCard

/-- THE TIED CARD OF 'laws.FnExactTakeRange'. -/
def fnExactTakeRangeCard : Claim7 := { stood := { row := fnExactTakeRangeRow, standIns := [], harness := (true, "d3fb1dab74d4de93346e5c6523bea93b9d9ac4ee33523e5d7f68d95f68271bbc"), looks := false }, kinds := [], alts := [], laidByText := true, laidKinds := [.data], laidTests := true, laidLooks := .later }
def FnExactTakeRangeCardSaid : Prop := Claim7.holds Tryz.pinned (.plain (OpenSpec.ofChange fnExactTakeRangeSpec)) fnExactTakeRangeCard

/-- THE TIED CARD OF 'laws.FnRangeGuard'. -/
def fnRangeGuardCard : Claim7 := { stood := { row := fnRangeGuardRow, standIns := [], harness := (true, "d3fb1dab74d4de93346e5c6523bea93b9d9ac4ee33523e5d7f68d95f68271bbc"), looks := false }, kinds := [], alts := [], laidByText := true, laidKinds := [.data], laidTests := true, laidLooks := .later }
def FnRangeGuardCardSaid : Prop := Claim7.holds Tryz.pinned (.plain (OpenSpec.ofChange fnRangeGuardSpec)) fnRangeGuardCard

/-- THE TIED CARD OF 'laws.FnPutRange'. -/
def fnPutRangeCard : Claim7 := { stood := { row := fnPutRangeRow, standIns := [], harness := (true, "d3fb1dab74d4de93346e5c6523bea93b9d9ac4ee33523e5d7f68d95f68271bbc"), looks := false }, kinds := [], alts := [], laidByText := true, laidKinds := [.data], laidTests := true, laidLooks := .later }
def FnPutRangeCardSaid : Prop := Claim7.holds Tryz.pinned (.plain (OpenSpec.ofChange fnPutRangeSpec)) fnPutRangeCard

/-- THE TIED CARD OF 'laws.FnTakeRange'. -/
def fnTakeRangeCard : Claim7 := { stood := { row := fnTakeRangeRow, standIns := [], harness := (true, "d3fb1dab74d4de93346e5c6523bea93b9d9ac4ee33523e5d7f68d95f68271bbc"), looks := false }, kinds := [], alts := [], laidByText := true, laidKinds := [.data], laidTests := true, laidLooks := .later }
def FnTakeRangeCardSaid : Prop := Claim7.holds Tryz.pinned (.plain (OpenSpec.ofChange fnTakeRangeSpec)) fnTakeRangeCard

/-- THE SECOND FORM's CARD OF 'laws.FnPutParts'. -/
def fnPutPartsUptoCard : Claim7 := { stood := { row := fnPutPartsUptoRow, standIns := [], harness := (true, "d3fb1dab74d4de93346e5c6523bea93b9d9ac4ee33523e5d7f68d95f68271bbc"), looks := false }, kinds := [], alts := [], laidByText := true, laidKinds := [.data], laidTests := true, laidLooks := .later }
def FnPutPartsUptoCardSaid : Prop := Claim7.holds Tryz.pinned (.plain (OpenSpec.upto fnPutPartsSpec)) fnPutPartsUptoCard

/-- THE SECOND FORM's CARD OF 'laws.FnExactPutRange'. -/
def fnExactPutRangeUptoCard : Claim7 := { stood := { row := fnExactPutRangeUptoRow, standIns := [], harness := (true, "d3fb1dab74d4de93346e5c6523bea93b9d9ac4ee33523e5d7f68d95f68271bbc"), looks := false }, kinds := [], alts := [], laidByText := true, laidKinds := [.data], laidTests := true, laidLooks := .later }
def FnExactPutRangeUptoCardSaid : Prop := Claim7.holds Tryz.pinned (.plain (OpenSpec.upto fnExactPutRangeSpec)) fnExactPutRangeUptoCard

/-- THE SECOND FORM's CARD OF 'laws.FnGuardOne'. -/
def fnGuardOneUptoCard : Claim7 := { stood := { row := fnGuardOneUptoRow, standIns := [], harness := (true, "d3fb1dab74d4de93346e5c6523bea93b9d9ac4ee33523e5d7f68d95f68271bbc"), looks := false }, kinds := [], alts := [], laidByText := true, laidKinds := [.data], laidTests := true, laidLooks := .later }
def FnGuardOneUptoCardSaid : Prop := Claim7.holds Tryz.pinned (.plain (OpenSpec.upto fnGuardOneSpec)) fnGuardOneUptoCard

/-- THE SECOND FORM's CARD OF 'laws.FnGuardRange'. -/
def fnGuardRangeUptoCard : Claim7 := { stood := { row := fnGuardRangeUptoRow, standIns := [], harness := (true, "d3fb1dab74d4de93346e5c6523bea93b9d9ac4ee33523e5d7f68d95f68271bbc"), looks := false }, kinds := [], alts := [], laidByText := true, laidKinds := [.data], laidTests := true, laidLooks := .later }
def FnGuardRangeUptoCardSaid : Prop := Claim7.holds Tryz.pinned (.plain (OpenSpec.upto fnGuardRangeSpec)) fnGuardRangeUptoCard

/-- THE SECOND FORM's CARD OF 'laws.FnTakeOne'. -/
def fnTakeOneUptoCard : Claim7 := { stood := { row := fnTakeOneUptoRow, standIns := [], harness := (true, "d3fb1dab74d4de93346e5c6523bea93b9d9ac4ee33523e5d7f68d95f68271bbc"), looks := false }, kinds := [], alts := [], laidByText := true, laidKinds := [.data], laidTests := true, laidLooks := .later }
def FnTakeOneUptoCardSaid : Prop := Claim7.holds Tryz.pinned (.plain (OpenSpec.upto fnTakeOneSpec)) fnTakeOneUptoCard

/-- THE SECOND FORM's CARD OF 'laws.FnExactGuardRange'. -/
def fnExactGuardRangeUptoCard : Claim7 := { stood := { row := fnExactGuardRangeUptoRow, standIns := [], harness := (true, "d3fb1dab74d4de93346e5c6523bea93b9d9ac4ee33523e5d7f68d95f68271bbc"), looks := false }, kinds := [], alts := [], laidByText := true, laidKinds := [.data], laidTests := true, laidLooks := .later }
def FnExactGuardRangeUptoCardSaid : Prop := Claim7.holds Tryz.pinned (.plain (OpenSpec.upto fnExactGuardRangeSpec)) fnExactGuardRangeUptoCard

/-- THE SECOND FORM's CARD OF 'laws.FnExactTakeRange'. -/
def fnExactTakeRangeUptoCard : Claim7 := { stood := { row := fnExactTakeRangeUptoRow, standIns := [], harness := (true, "d3fb1dab74d4de93346e5c6523bea93b9d9ac4ee33523e5d7f68d95f68271bbc"), looks := false }, kinds := [], alts := [], laidByText := true, laidKinds := [.data], laidTests := true, laidLooks := .later }
def FnExactTakeRangeUptoCardSaid : Prop := Claim7.holds Tryz.pinned (.plain (OpenSpec.upto fnExactTakeRangeSpec)) fnExactTakeRangeUptoCard

/-- THE SECOND FORM's CARD OF 'laws.FnRangeGuard'. -/
def fnRangeGuardUptoCard : Claim7 := { stood := { row := fnRangeGuardUptoRow, standIns := [], harness := (true, "d3fb1dab74d4de93346e5c6523bea93b9d9ac4ee33523e5d7f68d95f68271bbc"), looks := false }, kinds := [], alts := [], laidByText := true, laidKinds := [.data], laidTests := true, laidLooks := .later }
def FnRangeGuardUptoCardSaid : Prop := Claim7.holds Tryz.pinned (.plain (OpenSpec.upto fnRangeGuardSpec)) fnRangeGuardUptoCard

/-- THE SECOND FORM's CARD OF 'laws.FnPutRange'. -/
def fnPutRangeUptoCard : Claim7 := { stood := { row := fnPutRangeUptoRow, standIns := [], harness := (true, "d3fb1dab74d4de93346e5c6523bea93b9d9ac4ee33523e5d7f68d95f68271bbc"), looks := false }, kinds := [], alts := [], laidByText := true, laidKinds := [.data], laidTests := true, laidLooks := .later }
def FnPutRangeUptoCardSaid : Prop := Claim7.holds Tryz.pinned (.plain (OpenSpec.upto fnPutRangeSpec)) fnPutRangeUptoCard

/-- THE SECOND FORM's CARD OF 'laws.FnTakeRange'. -/
def fnTakeRangeUptoCard : Claim7 := { stood := { row := fnTakeRangeUptoRow, standIns := [], harness := (true, "d3fb1dab74d4de93346e5c6523bea93b9d9ac4ee33523e5d7f68d95f68271bbc"), looks := false }, kinds := [], alts := [], laidByText := true, laidKinds := [.data], laidTests := true, laidLooks := .later }
def FnTakeRangeUptoCardSaid : Prop := Claim7.holds Tryz.pinned (.plain (OpenSpec.upto fnTakeRangeSpec)) fnTakeRangeUptoCard
end Rows
end Go.Proofs.YtkmocongdkacjaaGreatDoor
