/-
  DERIVED. GIVEN WITH THE SEED: THE CARDS: each row of YtdgbnaignpploaaDoorRows.lean that lists a variable, with what it lists TIED to the program's text (the seventh form; the later family's looks); each row that meets fmt, with fmt's text TOLD by the authors' own Lean function (tested against real Go, not proved from fmt's source: count such statements apart). THE CARD IS WHAT COUNTS. Prove the row's statement (the work); the ties are given (YtdgbnaignpploaaDoorTie.lean); close each card by the builder's one call (the guide's Derived/Test/ToyasCard.lean, 'card_holds'). Laid BY PROGRAM, IN A SANDBOX (cutbox-door.mjs). By AI agents, Wed Nov 11 2026. No macro, syntax, notation, axiom, sorry.
-/
import Derived.Test.YtdgbnaignpploaaDoorRows
import GoSem.ClaimSeven
namespace Go.Proofs.YtdgbnaignpploaaDoor
namespace Rows

/-- THE TIED CARD OF 'gambitlaw18.ThingMarks'. -/
def thingMarksCard : Claim7 := { stood := { row := thingMarksRow, standIns := [], harness := (true, "0e1d041c6531edc598290538a8d6bcc3d0e7402dbb126a7940586b61abd8b9ec"), looks := false }, kinds := [], alts := [], laidByText := true, laidKinds := [.data, .pinned], laidTests := true, laidLooks := .later }
def ThingMarksCardSaid : Prop := Claim7.holds Tryd.pinned (.plain (OpenSpec.ofChange thingMarksSpec)) thingMarksCard

/-- THE TIED CARD OF 'gambitlaw07.BookNumbers'. -/
def bookNumbersCard : Claim7 := { stood := { row := bookNumbersRow, standIns := [], harness := (true, "0e1d041c6531edc598290538a8d6bcc3d0e7402dbb126a7940586b61abd8b9ec"), looks := false }, kinds := [], alts := [], laidByText := true, laidKinds := [.data, .pinned], laidTests := true, laidLooks := .later }
def BookNumbersCardSaid : Prop := Claim7.holds Tryd.pinned (.plain (OpenSpec.ofChange bookNumbersSpec)) bookNumbersCard

/-- THE TIED CARD OF 'gambitlaw18.ThingAdds'. -/
def thingAddsCard : Claim7 := { stood := { row := thingAddsRow, standIns := [], harness := (true, "0e1d041c6531edc598290538a8d6bcc3d0e7402dbb126a7940586b61abd8b9ec"), looks := false }, kinds := [], alts := [], laidByText := true, laidKinds := [.data, .pinned], laidTests := true, laidLooks := .later }
def ThingAddsCardSaid : Prop := Claim7.holds Tryd.pinned (.plain (OpenSpec.ofChange thingAddsSpec)) thingAddsCard

/-- THE TIED CARD OF 'gambitlaw07.BookOrder'. -/
def bookOrderCard : Claim7 := { stood := { row := bookOrderRow, standIns := [], harness := (true, "0e1d041c6531edc598290538a8d6bcc3d0e7402dbb126a7940586b61abd8b9ec"), looks := false }, kinds := [], alts := [], laidByText := true, laidKinds := [.data, .pinned], laidTests := true, laidLooks := .later }
def BookOrderCardSaid : Prop := Claim7.holds Tryd.pinned (.plain (OpenSpec.ofChange bookOrderSpec)) bookOrderCard

/-- THE TIED CARD OF 'gambitlaw09.EarthFills'. -/
def earthFillsCard : Claim7 := { stood := { row := earthFillsRow, standIns := [], harness := (true, "0e1d041c6531edc598290538a8d6bcc3d0e7402dbb126a7940586b61abd8b9ec"), looks := false }, kinds := [], alts := [], laidByText := true, laidKinds := [.data, .pinned], laidTests := true, laidLooks := .later }
def EarthFillsCardSaid : Prop := Claim7.holds Tryd.pinned (.plain (OpenSpec.ofChange earthFillsSpec)) earthFillsCard

/-- THE TIED CARD OF 'gambitlaw12.VoidFills'. -/
def voidFillsCard : Claim7 := { stood := { row := voidFillsRow, standIns := [], harness := (true, "0e1d041c6531edc598290538a8d6bcc3d0e7402dbb126a7940586b61abd8b9ec"), looks := false }, kinds := [], alts := [], laidByText := true, laidKinds := [.data, .pinned], laidTests := true, laidLooks := .later }
def VoidFillsCardSaid : Prop := Claim7.holds Tryd.pinned (.plain (OpenSpec.ofChange voidFillsSpec)) voidFillsCard

/-- THE SECOND FORM's CARD OF 'gambitlaw18.ThingMarks'. -/
def thingMarksUptoCard : Claim7 := { stood := { row := thingMarksUptoRow, standIns := [], harness := (true, "0e1d041c6531edc598290538a8d6bcc3d0e7402dbb126a7940586b61abd8b9ec"), looks := false }, kinds := [], alts := [], laidByText := true, laidKinds := [.data, .pinned], laidTests := true, laidLooks := .later }
def ThingMarksUptoCardSaid : Prop := Claim7.holds Tryd.pinned (.plain (OpenSpec.upto thingMarksSpec)) thingMarksUptoCard

/-- THE SECOND FORM's CARD OF 'gambitlaw07.BookNumbers'. -/
def bookNumbersUptoCard : Claim7 := { stood := { row := bookNumbersUptoRow, standIns := [], harness := (true, "0e1d041c6531edc598290538a8d6bcc3d0e7402dbb126a7940586b61abd8b9ec"), looks := false }, kinds := [], alts := [], laidByText := true, laidKinds := [.data, .pinned], laidTests := true, laidLooks := .later }
def BookNumbersUptoCardSaid : Prop := Claim7.holds Tryd.pinned (.plain (OpenSpec.upto bookNumbersSpec)) bookNumbersUptoCard

/-- THE SECOND FORM's CARD OF 'gambitlaw18.ThingAdds'. -/
def thingAddsUptoCard : Claim7 := { stood := { row := thingAddsUptoRow, standIns := [], harness := (true, "0e1d041c6531edc598290538a8d6bcc3d0e7402dbb126a7940586b61abd8b9ec"), looks := false }, kinds := [], alts := [], laidByText := true, laidKinds := [.data, .pinned], laidTests := true, laidLooks := .later }
def ThingAddsUptoCardSaid : Prop := Claim7.holds Tryd.pinned (.plain (OpenSpec.upto thingAddsSpec)) thingAddsUptoCard

/-- THE SECOND FORM's CARD OF 'gambitlaw07.BookOrder'. -/
def bookOrderUptoCard : Claim7 := { stood := { row := bookOrderUptoRow, standIns := [], harness := (true, "0e1d041c6531edc598290538a8d6bcc3d0e7402dbb126a7940586b61abd8b9ec"), looks := false }, kinds := [], alts := [], laidByText := true, laidKinds := [.data, .pinned], laidTests := true, laidLooks := .later }
def BookOrderUptoCardSaid : Prop := Claim7.holds Tryd.pinned (.plain (OpenSpec.upto bookOrderSpec)) bookOrderUptoCard

/-- THE SECOND FORM's CARD OF 'gambitlaw09.EarthFills'. -/
def earthFillsUptoCard : Claim7 := { stood := { row := earthFillsUptoRow, standIns := [], harness := (true, "0e1d041c6531edc598290538a8d6bcc3d0e7402dbb126a7940586b61abd8b9ec"), looks := false }, kinds := [], alts := [], laidByText := true, laidKinds := [.data, .pinned], laidTests := true, laidLooks := .later }
def EarthFillsUptoCardSaid : Prop := Claim7.holds Tryd.pinned (.plain (OpenSpec.upto earthFillsSpec)) earthFillsUptoCard

/-- THE SECOND FORM's CARD OF 'gambitlaw12.VoidFills'. -/
def voidFillsUptoCard : Claim7 := { stood := { row := voidFillsUptoRow, standIns := [], harness := (true, "0e1d041c6531edc598290538a8d6bcc3d0e7402dbb126a7940586b61abd8b9ec"), looks := false }, kinds := [], alts := [], laidByText := true, laidKinds := [.data, .pinned], laidTests := true, laidLooks := .later }
def VoidFillsUptoCardSaid : Prop := Claim7.holds Tryd.pinned (.plain (OpenSpec.upto voidFillsSpec)) voidFillsUptoCard
end Rows
end Go.Proofs.YtdgbnaignpploaaDoor
