/-
  DERIVED. GIVEN WITH THE SEED: THE CARDS: each row of YtnaagdmaggdbmaaGreatDoorRows.lean that lists a variable, with what it lists TIED to the program's text (the seventh form; the later family's looks); each row that meets fmt, with fmt's text TOLD by the authors' own Lean function (tested against real Go, not proved from fmt's source: count such statements apart). THE CARD IS WHAT COUNTS. Prove the row's statement (the work); the ties are given (YtnaagdmaggdbmaaGreatDoorTie.lean); close each card by the builder's one call (the guide's Derived/Test/ToyasCard.lean, 'card_holds'). Laid BY PROGRAM, IN A SANDBOX (cutbox-door.mjs). By AI agents, Wed Nov 11 2026. No macro, syntax, notation, axiom, sorry.
-/
import Derived.Test.YtnaagdmaggdbmaaGreatDoorRows
import GoSem.ClaimSeven
namespace Go.Proofs.YtnaagdmaggdbmaaGreatDoor
namespace Rows

/-- THE TIED CARD OF 'laws.FnPutParts'. -/
def fnPutPartsCard : Claim7 := { stood := { row := fnPutPartsRow, standIns := [], harness := (true, "b52c73bd0f57e1e1fda4b36c52bbd12a9fda5143d317739edc23f03956921a65"), looks := false }, kinds := [], alts := [], laidByText := true, laidKinds := [.data], laidTests := true, laidLooks := .later }
def FnPutPartsCardSaid : Prop := Claim7.holds Tryz.pinned (.plain (OpenSpec.ofChange fnPutPartsSpec)) fnPutPartsCard

/-- THE TIED CARD OF 'laws.FnGuardOne'. -/
def fnGuardOneCard : Claim7 := { stood := { row := fnGuardOneRow, standIns := [], harness := (true, "b52c73bd0f57e1e1fda4b36c52bbd12a9fda5143d317739edc23f03956921a65"), looks := false }, kinds := [], alts := [], laidByText := true, laidKinds := [.data], laidTests := true, laidLooks := .later }
def FnGuardOneCardSaid : Prop := Claim7.holds Tryz.pinned (.plain (OpenSpec.ofChange fnGuardOneSpec)) fnGuardOneCard

/-- THE TIED CARD OF 'laws.FnGuardRange'. -/
def fnGuardRangeCard : Claim7 := { stood := { row := fnGuardRangeRow, standIns := [], harness := (true, "b52c73bd0f57e1e1fda4b36c52bbd12a9fda5143d317739edc23f03956921a65"), looks := false }, kinds := [], alts := [], laidByText := true, laidKinds := [.data], laidTests := true, laidLooks := .later }
def FnGuardRangeCardSaid : Prop := Claim7.holds Tryz.pinned (.plain (OpenSpec.ofChange fnGuardRangeSpec)) fnGuardRangeCard

/-- THE TIED CARD OF 'laws.FnTakeOne'. -/
def fnTakeOneCard : Claim7 := { stood := { row := fnTakeOneRow, standIns := [], harness := (true, "b52c73bd0f57e1e1fda4b36c52bbd12a9fda5143d317739edc23f03956921a65"), looks := false }, kinds := [], alts := [], laidByText := true, laidKinds := [.data], laidTests := true, laidLooks := .later }
def FnTakeOneCardSaid : Prop := Claim7.holds Tryz.pinned (.plain (OpenSpec.ofChange fnTakeOneSpec)) fnTakeOneCard

/-- THE TIED CARD OF 'laws.FnByteNext'. -/
def fnByteNextCard : Claim7 := { stood := { row := fnByteNextRow, standIns := [], harness := (true, "b52c73bd0f57e1e1fda4b36c52bbd12a9fda5143d317739edc23f03956921a65"), looks := false }, kinds := [], alts := [], laidByText := true, laidKinds := [.data], laidTests := true, laidLooks := .later }
def FnByteNextCardSaid : Prop := Claim7.holds Tryz.pinned (.plain (OpenSpec.ofChange fnByteNextSpec)) fnByteNextCard

/-- THE TIED CARD OF 'laws.FnFindByte'. -/
def fnFindByteCard : Claim7 := { stood := { row := fnFindByteRow, standIns := [], harness := (true, "b52c73bd0f57e1e1fda4b36c52bbd12a9fda5143d317739edc23f03956921a65"), looks := false }, kinds := [], alts := [], laidByText := true, laidKinds := [.data], laidTests := true, laidLooks := .later }
def FnFindByteCardSaid : Prop := Claim7.holds Tryz.pinned (.plain (OpenSpec.ofChange fnFindByteSpec)) fnFindByteCard

/-- THE TIED CARD OF 'laws.FnExactFindByte'. -/
def fnExactFindByteCard : Claim7 := { stood := { row := fnExactFindByteRow, standIns := [], harness := (true, "b52c73bd0f57e1e1fda4b36c52bbd12a9fda5143d317739edc23f03956921a65"), looks := false }, kinds := [], alts := [], laidByText := true, laidKinds := [.data], laidTests := true, laidLooks := .later }
def FnExactFindByteCardSaid : Prop := Claim7.holds Tryz.pinned (.plain (OpenSpec.ofChange fnExactFindByteSpec)) fnExactFindByteCard

/-- THE TIED CARD OF 'laws.FnTouchBytes'. -/
def fnTouchBytesCard : Claim7 := { stood := { row := fnTouchBytesRow, standIns := [], harness := (true, "b52c73bd0f57e1e1fda4b36c52bbd12a9fda5143d317739edc23f03956921a65"), looks := false }, kinds := [], alts := [], laidByText := true, laidKinds := [.data], laidTests := true, laidLooks := .later }
def FnTouchBytesCardSaid : Prop := Claim7.holds Tryz.pinned (.plain (OpenSpec.ofChange fnTouchBytesSpec)) fnTouchBytesCard

/-- THE TIED CARD OF 'laws.FnTouchOne'. -/
def fnTouchOneCard : Claim7 := { stood := { row := fnTouchOneRow, standIns := [], harness := (true, "b52c73bd0f57e1e1fda4b36c52bbd12a9fda5143d317739edc23f03956921a65"), looks := false }, kinds := [], alts := [], laidByText := true, laidKinds := [.data], laidTests := true, laidLooks := .later }
def FnTouchOneCardSaid : Prop := Claim7.holds Tryz.pinned (.plain (OpenSpec.ofChange fnTouchOneSpec)) fnTouchOneCard

/-- THE TIED CARD OF 'laws.FnExactTouchBytes'. -/
def fnExactTouchBytesCard : Claim7 := { stood := { row := fnExactTouchBytesRow, standIns := [], harness := (true, "b52c73bd0f57e1e1fda4b36c52bbd12a9fda5143d317739edc23f03956921a65"), looks := false }, kinds := [], alts := [], laidByText := true, laidKinds := [.data], laidTests := true, laidLooks := .later }
def FnExactTouchBytesCardSaid : Prop := Claim7.holds Tryz.pinned (.plain (OpenSpec.ofChange fnExactTouchBytesSpec)) fnExactTouchBytesCard

/-- THE SECOND FORM's CARD OF 'laws.FnPutParts'. -/
def fnPutPartsUptoCard : Claim7 := { stood := { row := fnPutPartsUptoRow, standIns := [], harness := (true, "b52c73bd0f57e1e1fda4b36c52bbd12a9fda5143d317739edc23f03956921a65"), looks := false }, kinds := [], alts := [], laidByText := true, laidKinds := [.data], laidTests := true, laidLooks := .later }
def FnPutPartsUptoCardSaid : Prop := Claim7.holds Tryz.pinned (.plain (OpenSpec.upto fnPutPartsSpec)) fnPutPartsUptoCard

/-- THE SECOND FORM's CARD OF 'laws.FnGuardOne'. -/
def fnGuardOneUptoCard : Claim7 := { stood := { row := fnGuardOneUptoRow, standIns := [], harness := (true, "b52c73bd0f57e1e1fda4b36c52bbd12a9fda5143d317739edc23f03956921a65"), looks := false }, kinds := [], alts := [], laidByText := true, laidKinds := [.data], laidTests := true, laidLooks := .later }
def FnGuardOneUptoCardSaid : Prop := Claim7.holds Tryz.pinned (.plain (OpenSpec.upto fnGuardOneSpec)) fnGuardOneUptoCard

/-- THE SECOND FORM's CARD OF 'laws.FnGuardRange'. -/
def fnGuardRangeUptoCard : Claim7 := { stood := { row := fnGuardRangeUptoRow, standIns := [], harness := (true, "b52c73bd0f57e1e1fda4b36c52bbd12a9fda5143d317739edc23f03956921a65"), looks := false }, kinds := [], alts := [], laidByText := true, laidKinds := [.data], laidTests := true, laidLooks := .later }
def FnGuardRangeUptoCardSaid : Prop := Claim7.holds Tryz.pinned (.plain (OpenSpec.upto fnGuardRangeSpec)) fnGuardRangeUptoCard

/-- THE SECOND FORM's CARD OF 'laws.FnTakeOne'. -/
def fnTakeOneUptoCard : Claim7 := { stood := { row := fnTakeOneUptoRow, standIns := [], harness := (true, "b52c73bd0f57e1e1fda4b36c52bbd12a9fda5143d317739edc23f03956921a65"), looks := false }, kinds := [], alts := [], laidByText := true, laidKinds := [.data], laidTests := true, laidLooks := .later }
def FnTakeOneUptoCardSaid : Prop := Claim7.holds Tryz.pinned (.plain (OpenSpec.upto fnTakeOneSpec)) fnTakeOneUptoCard

/-- THE SECOND FORM's CARD OF 'laws.FnByteNext'. -/
def fnByteNextUptoCard : Claim7 := { stood := { row := fnByteNextUptoRow, standIns := [], harness := (true, "b52c73bd0f57e1e1fda4b36c52bbd12a9fda5143d317739edc23f03956921a65"), looks := false }, kinds := [], alts := [], laidByText := true, laidKinds := [.data], laidTests := true, laidLooks := .later }
def FnByteNextUptoCardSaid : Prop := Claim7.holds Tryz.pinned (.plain (OpenSpec.upto fnByteNextSpec)) fnByteNextUptoCard

/-- THE SECOND FORM's CARD OF 'laws.FnFindByte'. -/
def fnFindByteUptoCard : Claim7 := { stood := { row := fnFindByteUptoRow, standIns := [], harness := (true, "b52c73bd0f57e1e1fda4b36c52bbd12a9fda5143d317739edc23f03956921a65"), looks := false }, kinds := [], alts := [], laidByText := true, laidKinds := [.data], laidTests := true, laidLooks := .later }
def FnFindByteUptoCardSaid : Prop := Claim7.holds Tryz.pinned (.plain (OpenSpec.upto fnFindByteSpec)) fnFindByteUptoCard

/-- THE SECOND FORM's CARD OF 'laws.FnExactFindByte'. -/
def fnExactFindByteUptoCard : Claim7 := { stood := { row := fnExactFindByteUptoRow, standIns := [], harness := (true, "b52c73bd0f57e1e1fda4b36c52bbd12a9fda5143d317739edc23f03956921a65"), looks := false }, kinds := [], alts := [], laidByText := true, laidKinds := [.data], laidTests := true, laidLooks := .later }
def FnExactFindByteUptoCardSaid : Prop := Claim7.holds Tryz.pinned (.plain (OpenSpec.upto fnExactFindByteSpec)) fnExactFindByteUptoCard

/-- THE SECOND FORM's CARD OF 'laws.FnTouchBytes'. -/
def fnTouchBytesUptoCard : Claim7 := { stood := { row := fnTouchBytesUptoRow, standIns := [], harness := (true, "b52c73bd0f57e1e1fda4b36c52bbd12a9fda5143d317739edc23f03956921a65"), looks := false }, kinds := [], alts := [], laidByText := true, laidKinds := [.data], laidTests := true, laidLooks := .later }
def FnTouchBytesUptoCardSaid : Prop := Claim7.holds Tryz.pinned (.plain (OpenSpec.upto fnTouchBytesSpec)) fnTouchBytesUptoCard

/-- THE SECOND FORM's CARD OF 'laws.FnTouchOne'. -/
def fnTouchOneUptoCard : Claim7 := { stood := { row := fnTouchOneUptoRow, standIns := [], harness := (true, "b52c73bd0f57e1e1fda4b36c52bbd12a9fda5143d317739edc23f03956921a65"), looks := false }, kinds := [], alts := [], laidByText := true, laidKinds := [.data], laidTests := true, laidLooks := .later }
def FnTouchOneUptoCardSaid : Prop := Claim7.holds Tryz.pinned (.plain (OpenSpec.upto fnTouchOneSpec)) fnTouchOneUptoCard

/-- THE SECOND FORM's CARD OF 'laws.FnExactTouchBytes'. -/
def fnExactTouchBytesUptoCard : Claim7 := { stood := { row := fnExactTouchBytesUptoRow, standIns := [], harness := (true, "b52c73bd0f57e1e1fda4b36c52bbd12a9fda5143d317739edc23f03956921a65"), looks := false }, kinds := [], alts := [], laidByText := true, laidKinds := [.data], laidTests := true, laidLooks := .later }
def FnExactTouchBytesUptoCardSaid : Prop := Claim7.holds Tryz.pinned (.plain (OpenSpec.upto fnExactTouchBytesSpec)) fnExactTouchBytesUptoCard
end Rows
end Go.Proofs.YtnaagdmaggdbmaaGreatDoor
