/-
  DERIVED. GIVEN WITH THE SEED: THE CARDS: each row of YtecmlefiajhajaaGreatDoorRows.lean that lists a variable, with what it lists TIED to the program's text (the seventh form; the later family's looks); each row that meets fmt, with fmt's text TOLD by the authors' own Lean function (tested against real Go, not proved from fmt's source: count such statements apart). THE CARD IS WHAT COUNTS. Prove the row's statement (the work); the ties are given (YtecmlefiajhajaaGreatDoorTie.lean); close each card by the builder's one call (the guide's Derived/Test/ToyasCard.lean, 'card_holds'). Laid BY PROGRAM, IN A SANDBOX (cutbox-door.mjs). By AI agents, Wed Nov 11 2026. No macro, syntax, notation, axiom, sorry.
-/
import Derived.Test.YtecmlefiajhajaaGreatDoorRows
import GoSem.ClaimSeven
namespace Go.Proofs.YtecmlefiajhajaaGreatDoor
namespace Rows

/-- THE TIED CARD OF 'gambitlaw18.ThingTells'. -/
def thingTellsCard : Claim7 := { stood := { row := thingTellsRow, standIns := [], harness := (true, "1abcdf3bde55cf0cf6563ac3d4721f7f4065351a883545310eb66ddb6c9b0853"), looks := false }, kinds := [], alts := [], laidByText := true, laidKinds := [.data, .pinned], laidTests := true, laidLooks := .later }
def ThingTellsCardSaid : Prop := Claim7.holds Tryz.pinned (.plain (OpenSpec.ofChange thingTellsSpec)) thingTellsCard

/-- THE TIED CARD OF 'gambitlaw07.BookScript'. -/
def bookScriptCard : Claim7 := { stood := { row := bookScriptRow, standIns := [], harness := (true, "1abcdf3bde55cf0cf6563ac3d4721f7f4065351a883545310eb66ddb6c9b0853"), looks := false }, kinds := [], alts := [], laidByText := true, laidKinds := [.data, .pinned], laidTests := true, laidLooks := .later }
def BookScriptCardSaid : Prop := Claim7.holds Tryz.pinned (.plain (OpenSpec.ofChange bookScriptSpec)) bookScriptCard

/-- THE TIED CARD OF 'gambitlaw14.WholeNames'. -/
def wholeNamesCard : Claim7 := { stood := { row := wholeNamesRow, standIns := [], harness := (true, "1abcdf3bde55cf0cf6563ac3d4721f7f4065351a883545310eb66ddb6c9b0853"), looks := false }, kinds := [], alts := [], laidByText := true, laidKinds := [.data, .data, .pinned], laidTests := true, laidLooks := .later }
def WholeNamesCardSaid : Prop := Claim7.holds Tryz.pinned (.plain (OpenSpec.ofChange wholeNamesSpec)) wholeNamesCard

/-- THE TIED CARD OF 'gambitlaw14.WholeTells'. -/
def wholeTellsCard : Claim7 := { stood := { row := wholeTellsRow, standIns := [], harness := (true, "1abcdf3bde55cf0cf6563ac3d4721f7f4065351a883545310eb66ddb6c9b0853"), looks := false }, kinds := [], alts := [], laidByText := true, laidKinds := [.data, .data, .pinned], laidTests := true, laidLooks := .later }
def WholeTellsCardSaid : Prop := Claim7.holds Tryz.pinned (.plain (OpenSpec.ofChange wholeTellsSpec)) wholeTellsCard

/-- THE TIED CARD OF 'gambitlaw14.WholeAgain'. -/
def wholeAgainCard : Claim7 := { stood := { row := wholeAgainRow, standIns := [], harness := (true, "1abcdf3bde55cf0cf6563ac3d4721f7f4065351a883545310eb66ddb6c9b0853"), looks := false }, kinds := [], alts := [], laidByText := true, laidKinds := [.data, .data, .pinned], laidTests := true, laidLooks := .later }
def WholeAgainCardSaid : Prop := Claim7.holds Tryz.pinned (.plain (OpenSpec.ofChange wholeAgainSpec)) wholeAgainCard

/-- THE TIED CARD OF 'gambitlaw14.WholeStands'. -/
def wholeStandsCard : Claim7 := { stood := { row := wholeStandsRow, standIns := [], harness := (true, "1abcdf3bde55cf0cf6563ac3d4721f7f4065351a883545310eb66ddb6c9b0853"), looks := false }, kinds := [], alts := [], laidByText := true, laidKinds := [.data, .data, .pinned], laidTests := true, laidLooks := .later }
def WholeStandsCardSaid : Prop := Claim7.holds Tryz.pinned (.plain (OpenSpec.ofChange wholeStandsSpec)) wholeStandsCard

/-- THE TIED CARD OF 'gambitlaw14.WholeBegins'. -/
def wholeBeginsCard : Claim7 := { stood := { row := wholeBeginsRow, standIns := [], harness := (true, "1abcdf3bde55cf0cf6563ac3d4721f7f4065351a883545310eb66ddb6c9b0853"), looks := false }, kinds := [], alts := [], laidByText := true, laidKinds := [.data, .data, .pinned], laidTests := true, laidLooks := .later }
def WholeBeginsCardSaid : Prop := Claim7.holds Tryz.pinned (.plain (OpenSpec.ofChange wholeBeginsSpec)) wholeBeginsCard

/-- THE SECOND FORM's CARD OF 'gambitlaw18.ThingTells'. -/
def thingTellsUptoCard : Claim7 := { stood := { row := thingTellsUptoRow, standIns := [], harness := (true, "1abcdf3bde55cf0cf6563ac3d4721f7f4065351a883545310eb66ddb6c9b0853"), looks := false }, kinds := [], alts := [], laidByText := true, laidKinds := [.data, .pinned], laidTests := true, laidLooks := .later }
def ThingTellsUptoCardSaid : Prop := Claim7.holds Tryz.pinned (.plain (OpenSpec.upto thingTellsSpec)) thingTellsUptoCard

/-- THE SECOND FORM's CARD OF 'gambitlaw07.BookScript'. -/
def bookScriptUptoCard : Claim7 := { stood := { row := bookScriptUptoRow, standIns := [], harness := (true, "1abcdf3bde55cf0cf6563ac3d4721f7f4065351a883545310eb66ddb6c9b0853"), looks := false }, kinds := [], alts := [], laidByText := true, laidKinds := [.data, .pinned], laidTests := true, laidLooks := .later }
def BookScriptUptoCardSaid : Prop := Claim7.holds Tryz.pinned (.plain (OpenSpec.upto bookScriptSpec)) bookScriptUptoCard

/-- THE SECOND FORM's CARD OF 'gambitlaw14.WholeNames'. -/
def wholeNamesUptoCard : Claim7 := { stood := { row := wholeNamesUptoRow, standIns := [], harness := (true, "1abcdf3bde55cf0cf6563ac3d4721f7f4065351a883545310eb66ddb6c9b0853"), looks := false }, kinds := [], alts := [], laidByText := true, laidKinds := [.data, .data, .pinned], laidTests := true, laidLooks := .later }
def WholeNamesUptoCardSaid : Prop := Claim7.holds Tryz.pinned (.plain (OpenSpec.upto wholeNamesSpec)) wholeNamesUptoCard

/-- THE SECOND FORM's CARD OF 'gambitlaw14.WholeTells'. -/
def wholeTellsUptoCard : Claim7 := { stood := { row := wholeTellsUptoRow, standIns := [], harness := (true, "1abcdf3bde55cf0cf6563ac3d4721f7f4065351a883545310eb66ddb6c9b0853"), looks := false }, kinds := [], alts := [], laidByText := true, laidKinds := [.data, .data, .pinned], laidTests := true, laidLooks := .later }
def WholeTellsUptoCardSaid : Prop := Claim7.holds Tryz.pinned (.plain (OpenSpec.upto wholeTellsSpec)) wholeTellsUptoCard

/-- THE SECOND FORM's CARD OF 'gambitlaw14.WholeAgain'. -/
def wholeAgainUptoCard : Claim7 := { stood := { row := wholeAgainUptoRow, standIns := [], harness := (true, "1abcdf3bde55cf0cf6563ac3d4721f7f4065351a883545310eb66ddb6c9b0853"), looks := false }, kinds := [], alts := [], laidByText := true, laidKinds := [.data, .data, .pinned], laidTests := true, laidLooks := .later }
def WholeAgainUptoCardSaid : Prop := Claim7.holds Tryz.pinned (.plain (OpenSpec.upto wholeAgainSpec)) wholeAgainUptoCard

/-- THE SECOND FORM's CARD OF 'gambitlaw14.WholeStands'. -/
def wholeStandsUptoCard : Claim7 := { stood := { row := wholeStandsUptoRow, standIns := [], harness := (true, "1abcdf3bde55cf0cf6563ac3d4721f7f4065351a883545310eb66ddb6c9b0853"), looks := false }, kinds := [], alts := [], laidByText := true, laidKinds := [.data, .data, .pinned], laidTests := true, laidLooks := .later }
def WholeStandsUptoCardSaid : Prop := Claim7.holds Tryz.pinned (.plain (OpenSpec.upto wholeStandsSpec)) wholeStandsUptoCard

/-- THE SECOND FORM's CARD OF 'gambitlaw14.WholeBegins'. -/
def wholeBeginsUptoCard : Claim7 := { stood := { row := wholeBeginsUptoRow, standIns := [], harness := (true, "1abcdf3bde55cf0cf6563ac3d4721f7f4065351a883545310eb66ddb6c9b0853"), looks := false }, kinds := [], alts := [], laidByText := true, laidKinds := [.data, .data, .pinned], laidTests := true, laidLooks := .later }
def WholeBeginsUptoCardSaid : Prop := Claim7.holds Tryz.pinned (.plain (OpenSpec.upto wholeBeginsSpec)) wholeBeginsUptoCard
end Rows
end Go.Proofs.YtecmlefiajhajaaGreatDoor
