/-
  DERIVED. GIVEN WITH THE SEED: THE CARDS: each row of YtibpnlojlfcpmaaGreatDoorRows.lean that lists a variable, with what it lists TIED to the program's text (the seventh form; the later family's looks); each row that meets fmt, with fmt's text TOLD by the authors' own Lean function (tested against real Go, not proved from fmt's source: count such statements apart). THE CARD IS WHAT COUNTS. Prove the row's statement (the work); the ties are given (YtibpnlojlfcpmaaGreatDoorTie.lean); close each card by the builder's one call (the guide's Derived/Test/ToyasCard.lean, 'card_holds'). Laid BY PROGRAM, IN A SANDBOX (cutbox-door.mjs). By AI agents, Wed Nov 11 2026. No macro, syntax, notation, axiom, sorry.
-/
import Derived.Test.YtibpnlojlfcpmaaGreatDoorRows
import GoSem.ClaimSeven
namespace Go.Proofs.YtibpnlojlfcpmaaGreatDoor
namespace Rows

/-- THE TIED CARD OF 'laws.FnExactRangesOf'. -/
def fnExactRangesOfCard : Claim7 := { stood := { row := fnExactRangesOfRow, standIns := [], harness := (true, "5c12a013e767b7d7993c24608ee13d81065f8539567c873b3649a7c62dbebb2b"), looks := false }, kinds := [], alts := [], laidByText := true, laidKinds := [.data], laidTests := true, laidLooks := .later }
def FnExactRangesOfCardSaid : Prop := Claim7.holds Tryz.pinned (.plain (OpenSpec.ofChange fnExactRangesOfSpec)) fnExactRangesOfCard

/-- THE TIED CARD OF 'laws.FnRangesOf'. -/
def fnRangesOfCard : Claim7 := { stood := { row := fnRangesOfRow, standIns := [], harness := (true, "5c12a013e767b7d7993c24608ee13d81065f8539567c873b3649a7c62dbebb2b"), looks := false }, kinds := [], alts := [], laidByText := true, laidKinds := [.data], laidTests := true, laidLooks := .later }
def FnRangesOfCardSaid : Prop := Claim7.holds Tryz.pinned (.plain (OpenSpec.ofChange fnRangesOfSpec)) fnRangesOfCard

/-- THE TIED CARD OF 'laws.FnRangeGuard'. -/
def fnRangeGuardCard : Claim7 := { stood := { row := fnRangeGuardRow, standIns := [], harness := (true, "5c12a013e767b7d7993c24608ee13d81065f8539567c873b3649a7c62dbebb2b"), looks := false }, kinds := [], alts := [], laidByText := true, laidKinds := [.data], laidTests := true, laidLooks := .later }
def FnRangeGuardCardSaid : Prop := Claim7.holds Tryz.pinned (.plain (OpenSpec.ofChange fnRangeGuardSpec)) fnRangeGuardCard

/-- THE TIED CARD OF 'laws.FnEndSpace'. -/
def fnEndSpaceCard : Claim7 := { stood := { row := fnEndSpaceRow, standIns := [], harness := (true, "5c12a013e767b7d7993c24608ee13d81065f8539567c873b3649a7c62dbebb2b"), looks := false }, kinds := [], alts := [], laidByText := true, laidKinds := [.data], laidTests := true, laidLooks := .later }
def FnEndSpaceCardSaid : Prop := Claim7.holds Tryz.pinned (.plain (OpenSpec.ofChange fnEndSpaceSpec)) fnEndSpaceCard

/-- THE TIED CARD OF 'laws.FnPutRange'. -/
def fnPutRangeCard : Claim7 := { stood := { row := fnPutRangeRow, standIns := [], harness := (true, "5c12a013e767b7d7993c24608ee13d81065f8539567c873b3649a7c62dbebb2b"), looks := false }, kinds := [], alts := [], laidByText := true, laidKinds := [.data], laidTests := true, laidLooks := .later }
def FnPutRangeCardSaid : Prop := Claim7.holds Tryz.pinned (.plain (OpenSpec.ofChange fnPutRangeSpec)) fnPutRangeCard

/-- THE TIED CARD OF 'laws.FnTakeRange'. -/
def fnTakeRangeCard : Claim7 := { stood := { row := fnTakeRangeRow, standIns := [], harness := (true, "5c12a013e767b7d7993c24608ee13d81065f8539567c873b3649a7c62dbebb2b"), looks := false }, kinds := [], alts := [], laidByText := true, laidKinds := [.data], laidTests := true, laidLooks := .later }
def FnTakeRangeCardSaid : Prop := Claim7.holds Tryz.pinned (.plain (OpenSpec.ofChange fnTakeRangeSpec)) fnTakeRangeCard

/-- THE TIED CARD OF 'laws.FnTakePage'. -/
def fnTakePageCard : Claim7 := { stood := { row := fnTakePageRow, standIns := [], harness := (true, "5c12a013e767b7d7993c24608ee13d81065f8539567c873b3649a7c62dbebb2b"), looks := false }, kinds := [], alts := [], laidByText := true, laidKinds := [.data], laidTests := true, laidLooks := .later }
def FnTakePageCardSaid : Prop := Claim7.holds Tryz.pinned (.plain (OpenSpec.ofChange fnTakePageSpec)) fnTakePageCard

/-- THE TIED CARD OF 'laws.FnEndTwice'. -/
def fnEndTwiceCard : Claim7 := { stood := { row := fnEndTwiceRow, standIns := [], harness := (true, "5c12a013e767b7d7993c24608ee13d81065f8539567c873b3649a7c62dbebb2b"), looks := false }, kinds := [], alts := [], laidByText := true, laidKinds := [.data], laidTests := true, laidLooks := .later }
def FnEndTwiceCardSaid : Prop := Claim7.holds Tryz.pinned (.plain (OpenSpec.ofChange fnEndTwiceSpec)) fnEndTwiceCard

/-- THE TIED CARD OF 'laws.FnExactEndSpace'. -/
def fnExactEndSpaceCard : Claim7 := { stood := { row := fnExactEndSpaceRow, standIns := [], harness := (true, "5c12a013e767b7d7993c24608ee13d81065f8539567c873b3649a7c62dbebb2b"), looks := false }, kinds := [], alts := [], laidByText := true, laidKinds := [.data], laidTests := true, laidLooks := .later }
def FnExactEndSpaceCardSaid : Prop := Claim7.holds Tryz.pinned (.plain (OpenSpec.ofChange fnExactEndSpaceSpec)) fnExactEndSpaceCard

/-- THE TIED CARD OF 'laws.FnExactTouchBytes'. -/
def fnExactTouchBytesCard : Claim7 := { stood := { row := fnExactTouchBytesRow, standIns := [], harness := (true, "5c12a013e767b7d7993c24608ee13d81065f8539567c873b3649a7c62dbebb2b"), looks := false }, kinds := [], alts := [], laidByText := true, laidKinds := [.data], laidTests := true, laidLooks := .later }
def FnExactTouchBytesCardSaid : Prop := Claim7.holds Tryz.pinned (.plain (OpenSpec.ofChange fnExactTouchBytesSpec)) fnExactTouchBytesCard

/-- THE SECOND FORM's CARD OF 'laws.FnExactRangesOf'. -/
def fnExactRangesOfUptoCard : Claim7 := { stood := { row := fnExactRangesOfUptoRow, standIns := [], harness := (true, "5c12a013e767b7d7993c24608ee13d81065f8539567c873b3649a7c62dbebb2b"), looks := false }, kinds := [], alts := [], laidByText := true, laidKinds := [.data], laidTests := true, laidLooks := .later }
def FnExactRangesOfUptoCardSaid : Prop := Claim7.holds Tryz.pinned (.plain (OpenSpec.upto fnExactRangesOfSpec)) fnExactRangesOfUptoCard

/-- THE SECOND FORM's CARD OF 'laws.FnRangesOf'. -/
def fnRangesOfUptoCard : Claim7 := { stood := { row := fnRangesOfUptoRow, standIns := [], harness := (true, "5c12a013e767b7d7993c24608ee13d81065f8539567c873b3649a7c62dbebb2b"), looks := false }, kinds := [], alts := [], laidByText := true, laidKinds := [.data], laidTests := true, laidLooks := .later }
def FnRangesOfUptoCardSaid : Prop := Claim7.holds Tryz.pinned (.plain (OpenSpec.upto fnRangesOfSpec)) fnRangesOfUptoCard

/-- THE SECOND FORM's CARD OF 'laws.FnRangeGuard'. -/
def fnRangeGuardUptoCard : Claim7 := { stood := { row := fnRangeGuardUptoRow, standIns := [], harness := (true, "5c12a013e767b7d7993c24608ee13d81065f8539567c873b3649a7c62dbebb2b"), looks := false }, kinds := [], alts := [], laidByText := true, laidKinds := [.data], laidTests := true, laidLooks := .later }
def FnRangeGuardUptoCardSaid : Prop := Claim7.holds Tryz.pinned (.plain (OpenSpec.upto fnRangeGuardSpec)) fnRangeGuardUptoCard

/-- THE SECOND FORM's CARD OF 'laws.FnEndSpace'. -/
def fnEndSpaceUptoCard : Claim7 := { stood := { row := fnEndSpaceUptoRow, standIns := [], harness := (true, "5c12a013e767b7d7993c24608ee13d81065f8539567c873b3649a7c62dbebb2b"), looks := false }, kinds := [], alts := [], laidByText := true, laidKinds := [.data], laidTests := true, laidLooks := .later }
def FnEndSpaceUptoCardSaid : Prop := Claim7.holds Tryz.pinned (.plain (OpenSpec.upto fnEndSpaceSpec)) fnEndSpaceUptoCard

/-- THE SECOND FORM's CARD OF 'laws.FnPutRange'. -/
def fnPutRangeUptoCard : Claim7 := { stood := { row := fnPutRangeUptoRow, standIns := [], harness := (true, "5c12a013e767b7d7993c24608ee13d81065f8539567c873b3649a7c62dbebb2b"), looks := false }, kinds := [], alts := [], laidByText := true, laidKinds := [.data], laidTests := true, laidLooks := .later }
def FnPutRangeUptoCardSaid : Prop := Claim7.holds Tryz.pinned (.plain (OpenSpec.upto fnPutRangeSpec)) fnPutRangeUptoCard

/-- THE SECOND FORM's CARD OF 'laws.FnTakeRange'. -/
def fnTakeRangeUptoCard : Claim7 := { stood := { row := fnTakeRangeUptoRow, standIns := [], harness := (true, "5c12a013e767b7d7993c24608ee13d81065f8539567c873b3649a7c62dbebb2b"), looks := false }, kinds := [], alts := [], laidByText := true, laidKinds := [.data], laidTests := true, laidLooks := .later }
def FnTakeRangeUptoCardSaid : Prop := Claim7.holds Tryz.pinned (.plain (OpenSpec.upto fnTakeRangeSpec)) fnTakeRangeUptoCard

/-- THE SECOND FORM's CARD OF 'laws.FnTakePage'. -/
def fnTakePageUptoCard : Claim7 := { stood := { row := fnTakePageUptoRow, standIns := [], harness := (true, "5c12a013e767b7d7993c24608ee13d81065f8539567c873b3649a7c62dbebb2b"), looks := false }, kinds := [], alts := [], laidByText := true, laidKinds := [.data], laidTests := true, laidLooks := .later }
def FnTakePageUptoCardSaid : Prop := Claim7.holds Tryz.pinned (.plain (OpenSpec.upto fnTakePageSpec)) fnTakePageUptoCard

/-- THE SECOND FORM's CARD OF 'laws.FnEndTwice'. -/
def fnEndTwiceUptoCard : Claim7 := { stood := { row := fnEndTwiceUptoRow, standIns := [], harness := (true, "5c12a013e767b7d7993c24608ee13d81065f8539567c873b3649a7c62dbebb2b"), looks := false }, kinds := [], alts := [], laidByText := true, laidKinds := [.data], laidTests := true, laidLooks := .later }
def FnEndTwiceUptoCardSaid : Prop := Claim7.holds Tryz.pinned (.plain (OpenSpec.upto fnEndTwiceSpec)) fnEndTwiceUptoCard

/-- THE SECOND FORM's CARD OF 'laws.FnExactEndSpace'. -/
def fnExactEndSpaceUptoCard : Claim7 := { stood := { row := fnExactEndSpaceUptoRow, standIns := [], harness := (true, "5c12a013e767b7d7993c24608ee13d81065f8539567c873b3649a7c62dbebb2b"), looks := false }, kinds := [], alts := [], laidByText := true, laidKinds := [.data], laidTests := true, laidLooks := .later }
def FnExactEndSpaceUptoCardSaid : Prop := Claim7.holds Tryz.pinned (.plain (OpenSpec.upto fnExactEndSpaceSpec)) fnExactEndSpaceUptoCard

/-- THE SECOND FORM's CARD OF 'laws.FnExactTouchBytes'. -/
def fnExactTouchBytesUptoCard : Claim7 := { stood := { row := fnExactTouchBytesUptoRow, standIns := [], harness := (true, "5c12a013e767b7d7993c24608ee13d81065f8539567c873b3649a7c62dbebb2b"), looks := false }, kinds := [], alts := [], laidByText := true, laidKinds := [.data], laidTests := true, laidLooks := .later }
def FnExactTouchBytesUptoCardSaid : Prop := Claim7.holds Tryz.pinned (.plain (OpenSpec.upto fnExactTouchBytesSpec)) fnExactTouchBytesUptoCard
end Rows
end Go.Proofs.YtibpnlojlfcpmaaGreatDoor
