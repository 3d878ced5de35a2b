/-
  DERIVED. GIVEN WITH THE SEED: THE CARDS: each row of YtfbnokjdkhcgoaaGreatDoorRows.lean that lists a variable, with what it lists TIED to the program's text (the seventh form; the later family's looks); each row that meets fmt, with fmt's text TOLD by the authors' own Lean function (tested against real Go, not proved from fmt's source: count such statements apart). THE CARD IS WHAT COUNTS. Prove the row's statement (the work); the ties are given (YtfbnokjdkhcgoaaGreatDoorTie.lean); close each card by the builder's one call (the guide's Derived/Test/ToyasCard.lean, 'card_holds'). Laid BY PROGRAM, IN A SANDBOX (cutbox-door.mjs). By AI agents, Wed Nov 11 2026. No macro, syntax, notation, axiom, sorry.
-/
import Derived.Test.YtfbnokjdkhcgoaaGreatDoorRows
import GoSem.ClaimSeven
namespace Go.Proofs.YtfbnokjdkhcgoaaGreatDoor
namespace Rows

/-- THE TIED CARD OF 'laws.FnUseFew'. -/
def fnUseFewCard : Claim7 := { stood := { row := fnUseFewRow, standIns := [], harness := (true, "e3cae85953a1e8594c5d088c2f5802389a863d70d580150e0c190df728174340"), looks := false }, kinds := [], alts := [], laidByText := true, laidKinds := [.data], laidTests := true, laidLooks := .later }
def FnUseFewCardSaid : Prop := Claim7.holds Tryz.pinned (.plain (OpenSpec.ofChange fnUseFewSpec)) fnUseFewCard

/-- THE TIED CARD OF 'laws.FnUseWired'. -/
def fnUseWiredCard : Claim7 := { stood := { row := fnUseWiredRow, standIns := [], harness := (true, "e3cae85953a1e8594c5d088c2f5802389a863d70d580150e0c190df728174340"), looks := false }, kinds := [], alts := [], laidByText := true, laidKinds := [.data], laidTests := true, laidLooks := .later }
def FnUseWiredCardSaid : Prop := Claim7.holds Tryz.pinned (.plain (OpenSpec.ofChange fnUseWiredSpec)) fnUseWiredCard

/-- THE TIED CARD OF 'laws.FnUseOthers'. -/
def fnUseOthersCard : Claim7 := { stood := { row := fnUseOthersRow, standIns := [], harness := (true, "e3cae85953a1e8594c5d088c2f5802389a863d70d580150e0c190df728174340"), looks := false }, kinds := [], alts := [], laidByText := true, laidKinds := [.data], laidTests := true, laidLooks := .later }
def FnUseOthersCardSaid : Prop := Claim7.holds Tryz.pinned (.plain (OpenSpec.ofChange fnUseOthersSpec)) fnUseOthersCard

/-- THE TIED CARD OF 'laws.FnExactUsePage'. -/
def fnExactUsePageCard : Claim7 := { stood := { row := fnExactUsePageRow, standIns := [], harness := (true, "e3cae85953a1e8594c5d088c2f5802389a863d70d580150e0c190df728174340"), looks := false }, kinds := [], alts := [], laidByText := true, laidKinds := [.data], laidTests := true, laidLooks := .later }
def FnExactUsePageCardSaid : Prop := Claim7.holds Tryz.pinned (.plain (OpenSpec.ofChange fnExactUsePageSpec)) fnExactUsePageCard

/-- THE TIED CARD OF 'laws.FnExactUsePages'. -/
def fnExactUsePagesCard : Claim7 := { stood := { row := fnExactUsePagesRow, standIns := [], harness := (true, "e3cae85953a1e8594c5d088c2f5802389a863d70d580150e0c190df728174340"), looks := false }, kinds := [], alts := [], laidByText := true, laidKinds := [.data], laidTests := true, laidLooks := .later }
def FnExactUsePagesCardSaid : Prop := Claim7.holds Tryz.pinned (.plain (OpenSpec.ofChange fnExactUsePagesSpec)) fnExactUsePagesCard

/-- THE SECOND FORM's CARD OF 'laws.FnUseFew'. -/
def fnUseFewUptoCard : Claim7 := { stood := { row := fnUseFewUptoRow, standIns := [], harness := (true, "e3cae85953a1e8594c5d088c2f5802389a863d70d580150e0c190df728174340"), looks := false }, kinds := [], alts := [], laidByText := true, laidKinds := [.data], laidTests := true, laidLooks := .later }
def FnUseFewUptoCardSaid : Prop := Claim7.holds Tryz.pinned (.plain (OpenSpec.upto fnUseFewSpec)) fnUseFewUptoCard

/-- THE SECOND FORM's CARD OF 'laws.FnUseWired'. -/
def fnUseWiredUptoCard : Claim7 := { stood := { row := fnUseWiredUptoRow, standIns := [], harness := (true, "e3cae85953a1e8594c5d088c2f5802389a863d70d580150e0c190df728174340"), looks := false }, kinds := [], alts := [], laidByText := true, laidKinds := [.data], laidTests := true, laidLooks := .later }
def FnUseWiredUptoCardSaid : Prop := Claim7.holds Tryz.pinned (.plain (OpenSpec.upto fnUseWiredSpec)) fnUseWiredUptoCard

/-- THE SECOND FORM's CARD OF 'laws.FnUseOthers'. -/
def fnUseOthersUptoCard : Claim7 := { stood := { row := fnUseOthersUptoRow, standIns := [], harness := (true, "e3cae85953a1e8594c5d088c2f5802389a863d70d580150e0c190df728174340"), looks := false }, kinds := [], alts := [], laidByText := true, laidKinds := [.data], laidTests := true, laidLooks := .later }
def FnUseOthersUptoCardSaid : Prop := Claim7.holds Tryz.pinned (.plain (OpenSpec.upto fnUseOthersSpec)) fnUseOthersUptoCard

/-- THE SECOND FORM's CARD OF 'laws.FnExactUsePage'. -/
def fnExactUsePageUptoCard : Claim7 := { stood := { row := fnExactUsePageUptoRow, standIns := [], harness := (true, "e3cae85953a1e8594c5d088c2f5802389a863d70d580150e0c190df728174340"), looks := false }, kinds := [], alts := [], laidByText := true, laidKinds := [.data], laidTests := true, laidLooks := .later }
def FnExactUsePageUptoCardSaid : Prop := Claim7.holds Tryz.pinned (.plain (OpenSpec.upto fnExactUsePageSpec)) fnExactUsePageUptoCard

/-- THE SECOND FORM's CARD OF 'laws.FnExactUsePages'. -/
def fnExactUsePagesUptoCard : Claim7 := { stood := { row := fnExactUsePagesUptoRow, standIns := [], harness := (true, "e3cae85953a1e8594c5d088c2f5802389a863d70d580150e0c190df728174340"), looks := false }, kinds := [], alts := [], laidByText := true, laidKinds := [.data], laidTests := true, laidLooks := .later }
def FnExactUsePagesUptoCardSaid : Prop := Claim7.holds Tryz.pinned (.plain (OpenSpec.upto fnExactUsePagesSpec)) fnExactUsePagesUptoCard
end Rows
end Go.Proofs.YtfbnokjdkhcgoaaGreatDoor
