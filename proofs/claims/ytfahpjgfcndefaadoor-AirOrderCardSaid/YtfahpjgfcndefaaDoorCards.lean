/-
  DERIVED. GIVEN WITH THE SEED: THE CARDS: each row of YtfahpjgfcndefaaDoorRows.lean that lists a variable, with what it lists TIED to the program's text (the seventh form; the later family's looks); each row that meets fmt, with fmt's text TOLD by the authors' own Lean function (tested against real Go, not proved from fmt's source: count such statements apart). THE CARD IS WHAT COUNTS. Prove the row's statement (the work); the ties are given (YtfahpjgfcndefaaDoorTie.lean); close each card by the builder's one call (the guide's Derived/Test/ToyasCard.lean, 'card_holds'). Laid BY PROGRAM, IN A SANDBOX (cutbox-door.mjs). By AI agents, Wed Nov 11 2026. No macro, syntax, notation, axiom, sorry.
-/
import Derived.Test.YtfahpjgfcndefaaDoorRows
import GoSem.ClaimSeven
namespace Go.Proofs.YtfahpjgfcndefaaDoor
namespace Rows

/-- THE TIED CARD OF 'gambitlaw08.AirOrder'. -/
def airOrderCard : Claim7 := { stood := { row := airOrderRow, standIns := [], harness := (true, "68051cacb442be19c0b5e58a07a865a490de5b4356a77347656dc7b24a37c338"), looks := false }, kinds := [], alts := [], laidByText := true, laidKinds := [.data, .data, .pinned], laidTests := true, laidLooks := .later }
def AirOrderCardSaid : Prop := Claim7.holds Tryd.pinned (.plain (OpenSpec.ofChange airOrderSpec)) airOrderCard

/-- THE TIED CARD OF 'gambitlaw11.WaterOrder'. -/
def waterOrderCard : Claim7 := { stood := { row := waterOrderRow, standIns := [], harness := (true, "68051cacb442be19c0b5e58a07a865a490de5b4356a77347656dc7b24a37c338"), looks := false }, kinds := [], alts := [], laidByText := true, laidKinds := [.data, .data, .pinned], laidTests := true, laidLooks := .later }
def WaterOrderCardSaid : Prop := Claim7.holds Tryd.pinned (.plain (OpenSpec.ofChange waterOrderSpec)) waterOrderCard

/-- THE TIED CARD OF 'gambitlaw10.FireFills'. -/
def fireFillsCard : Claim7 := { stood := { row := fireFillsRow, standIns := [], harness := (true, "68051cacb442be19c0b5e58a07a865a490de5b4356a77347656dc7b24a37c338"), looks := false }, kinds := [], alts := [], laidByText := true, laidKinds := [.data, .pinned], laidTests := true, laidLooks := .later }
def FireFillsCardSaid : Prop := Claim7.holds Tryd.pinned (.plain (OpenSpec.ofChange fireFillsSpec)) fireFillsCard

/-- THE TIED CARD OF 'gambitlaw13.GoldFills'. -/
def goldFillsCard : Claim7 := { stood := { row := goldFillsRow, standIns := [], harness := (true, "68051cacb442be19c0b5e58a07a865a490de5b4356a77347656dc7b24a37c338"), looks := false }, kinds := [], alts := [], laidByText := true, laidKinds := [.data, .pinned], laidTests := true, laidLooks := .later }
def GoldFillsCardSaid : Prop := Claim7.holds Tryd.pinned (.plain (OpenSpec.ofChange goldFillsSpec)) goldFillsCard

/-- THE TIED CARD OF 'gambitlaw09.EarthFills'. -/
def earthFillsCard : Claim7 := { stood := { row := earthFillsRow, standIns := [], harness := (true, "68051cacb442be19c0b5e58a07a865a490de5b4356a77347656dc7b24a37c338"), looks := false }, kinds := [], alts := [], laidByText := true, laidKinds := [.data, .pinned], laidTests := true, laidLooks := .later }
def EarthFillsCardSaid : Prop := Claim7.holds Tryd.pinned (.plain (OpenSpec.ofChange earthFillsSpec)) earthFillsCard

/-- THE TIED CARD OF 'gambitlaw12.VoidFills'. -/
def voidFillsCard : Claim7 := { stood := { row := voidFillsRow, standIns := [], harness := (true, "68051cacb442be19c0b5e58a07a865a490de5b4356a77347656dc7b24a37c338"), looks := false }, kinds := [], alts := [], laidByText := true, laidKinds := [.data, .pinned], laidTests := true, laidLooks := .later }
def VoidFillsCardSaid : Prop := Claim7.holds Tryd.pinned (.plain (OpenSpec.ofChange voidFillsSpec)) voidFillsCard

/-- THE SECOND FORM's CARD OF 'gambitlaw08.AirOrder'. -/
def airOrderUptoCard : Claim7 := { stood := { row := airOrderUptoRow, standIns := [], harness := (true, "68051cacb442be19c0b5e58a07a865a490de5b4356a77347656dc7b24a37c338"), looks := false }, kinds := [], alts := [], laidByText := true, laidKinds := [.data, .data, .pinned], laidTests := true, laidLooks := .later }
def AirOrderUptoCardSaid : Prop := Claim7.holds Tryd.pinned (.plain (OpenSpec.upto airOrderSpec)) airOrderUptoCard

/-- THE SECOND FORM's CARD OF 'gambitlaw11.WaterOrder'. -/
def waterOrderUptoCard : Claim7 := { stood := { row := waterOrderUptoRow, standIns := [], harness := (true, "68051cacb442be19c0b5e58a07a865a490de5b4356a77347656dc7b24a37c338"), looks := false }, kinds := [], alts := [], laidByText := true, laidKinds := [.data, .data, .pinned], laidTests := true, laidLooks := .later }
def WaterOrderUptoCardSaid : Prop := Claim7.holds Tryd.pinned (.plain (OpenSpec.upto waterOrderSpec)) waterOrderUptoCard

/-- THE SECOND FORM's CARD OF 'gambitlaw10.FireFills'. -/
def fireFillsUptoCard : Claim7 := { stood := { row := fireFillsUptoRow, standIns := [], harness := (true, "68051cacb442be19c0b5e58a07a865a490de5b4356a77347656dc7b24a37c338"), looks := false }, kinds := [], alts := [], laidByText := true, laidKinds := [.data, .pinned], laidTests := true, laidLooks := .later }
def FireFillsUptoCardSaid : Prop := Claim7.holds Tryd.pinned (.plain (OpenSpec.upto fireFillsSpec)) fireFillsUptoCard

/-- THE SECOND FORM's CARD OF 'gambitlaw13.GoldFills'. -/
def goldFillsUptoCard : Claim7 := { stood := { row := goldFillsUptoRow, standIns := [], harness := (true, "68051cacb442be19c0b5e58a07a865a490de5b4356a77347656dc7b24a37c338"), looks := false }, kinds := [], alts := [], laidByText := true, laidKinds := [.data, .pinned], laidTests := true, laidLooks := .later }
def GoldFillsUptoCardSaid : Prop := Claim7.holds Tryd.pinned (.plain (OpenSpec.upto goldFillsSpec)) goldFillsUptoCard

/-- THE SECOND FORM's CARD OF 'gambitlaw09.EarthFills'. -/
def earthFillsUptoCard : Claim7 := { stood := { row := earthFillsUptoRow, standIns := [], harness := (true, "68051cacb442be19c0b5e58a07a865a490de5b4356a77347656dc7b24a37c338"), looks := false }, kinds := [], alts := [], laidByText := true, laidKinds := [.data, .pinned], laidTests := true, laidLooks := .later }
def EarthFillsUptoCardSaid : Prop := Claim7.holds Tryd.pinned (.plain (OpenSpec.upto earthFillsSpec)) earthFillsUptoCard

/-- THE SECOND FORM's CARD OF 'gambitlaw12.VoidFills'. -/
def voidFillsUptoCard : Claim7 := { stood := { row := voidFillsUptoRow, standIns := [], harness := (true, "68051cacb442be19c0b5e58a07a865a490de5b4356a77347656dc7b24a37c338"), looks := false }, kinds := [], alts := [], laidByText := true, laidKinds := [.data, .pinned], laidTests := true, laidLooks := .later }
def VoidFillsUptoCardSaid : Prop := Claim7.holds Tryd.pinned (.plain (OpenSpec.upto voidFillsSpec)) voidFillsUptoCard
end Rows
end Go.Proofs.YtfahpjgfcndefaaDoor
