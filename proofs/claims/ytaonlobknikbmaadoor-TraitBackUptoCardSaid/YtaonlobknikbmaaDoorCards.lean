/-
  DERIVED. GIVEN WITH THE SEED: THE CARDS: each row of YtaonlobknikbmaaDoorRows.lean that lists a variable, with what it lists TIED to the program's text (the seventh form; the later family's looks); each row that meets fmt, with fmt's text TOLD by the authors' own Lean function (tested against real Go, not proved from fmt's source: count such statements apart). THE CARD IS WHAT COUNTS. Prove the row's statement (the work); the ties are given (YtaonlobknikbmaaDoorTie.lean); close each card by the builder's one call (the guide's Derived/Test/ToyasCard.lean, 'card_holds'). Laid BY PROGRAM, IN A SANDBOX (cutbox-door.mjs). By AI agents, Wed Nov 11 2026. No macro, syntax, notation, axiom, sorry.
-/
import Derived.Test.YtaonlobknikbmaaDoorRows
import GoSem.ClaimSeven
namespace Go.Proofs.YtaonlobknikbmaaDoor
namespace Rows

/-- THE TIED CARD OF 'gambitlaw07.BookKnown'. -/
def bookKnownCard : Claim7 := { stood := { row := bookKnownRow, standIns := [], harness := (true, "55ff07e65b8aeca25131fd7b27191feb037126a25f72327e91356655e4f62dc7"), looks := false }, kinds := [], alts := [], laidByText := true, laidKinds := [.data, .pinned], laidTests := true, laidLooks := .later }
def BookKnownCardSaid : Prop := Claim7.holds Tryd.pinned (.plain (OpenSpec.ofChange bookKnownSpec)) bookKnownCard

/-- THE TIED CARD OF 'gambitlaw18.ThingNames'. -/
def thingNamesCard : Claim7 := { stood := { row := thingNamesRow, standIns := [], harness := (true, "55ff07e65b8aeca25131fd7b27191feb037126a25f72327e91356655e4f62dc7"), looks := false }, kinds := [], alts := [], laidByText := true, laidKinds := [.data, .pinned], laidTests := true, laidLooks := .later }
def ThingNamesCardSaid : Prop := Claim7.holds Tryd.pinned (.plain (OpenSpec.ofChange thingNamesSpec)) thingNamesCard

/-- THE TIED CARD OF 'gambitlaw04.TraitTexts'. -/
def traitTextsCard : Claim7 := { stood := { row := traitTextsRow, standIns := [], harness := (true, "55ff07e65b8aeca25131fd7b27191feb037126a25f72327e91356655e4f62dc7"), looks := false }, kinds := [], alts := [], laidByText := true, laidKinds := [.data, .data, .pinned], laidTests := true, laidLooks := .later }
def TraitTextsCardSaid : Prop := Claim7.holds Tryd.pinned (.plain (OpenSpec.ofChange traitTextsSpec)) traitTextsCard

/-- THE TIED CARD OF 'gambitlaw04.TraitBack'. -/
def traitBackCard : Claim7 := { stood := { row := traitBackRow, standIns := [], harness := (true, "55ff07e65b8aeca25131fd7b27191feb037126a25f72327e91356655e4f62dc7"), looks := false }, kinds := [], alts := [], laidByText := true, laidKinds := [.data, .data, .pinned], laidTests := true, laidLooks := .later }
def TraitBackCardSaid : Prop := Claim7.holds Tryd.pinned (.plain (OpenSpec.ofChange traitBackSpec)) traitBackCard

/-- THE SECOND FORM's CARD OF 'gambitlaw07.BookKnown'. -/
def bookKnownUptoCard : Claim7 := { stood := { row := bookKnownUptoRow, standIns := [], harness := (true, "55ff07e65b8aeca25131fd7b27191feb037126a25f72327e91356655e4f62dc7"), looks := false }, kinds := [], alts := [], laidByText := true, laidKinds := [.data, .pinned], laidTests := true, laidLooks := .later }
def BookKnownUptoCardSaid : Prop := Claim7.holds Tryd.pinned (.plain (OpenSpec.upto bookKnownSpec)) bookKnownUptoCard

/-- THE SECOND FORM's CARD OF 'gambitlaw18.ThingNames'. -/
def thingNamesUptoCard : Claim7 := { stood := { row := thingNamesUptoRow, standIns := [], harness := (true, "55ff07e65b8aeca25131fd7b27191feb037126a25f72327e91356655e4f62dc7"), looks := false }, kinds := [], alts := [], laidByText := true, laidKinds := [.data, .pinned], laidTests := true, laidLooks := .later }
def ThingNamesUptoCardSaid : Prop := Claim7.holds Tryd.pinned (.plain (OpenSpec.upto thingNamesSpec)) thingNamesUptoCard

/-- THE SECOND FORM's CARD OF 'gambitlaw04.TraitTexts'. -/
def traitTextsUptoCard : Claim7 := { stood := { row := traitTextsUptoRow, standIns := [], harness := (true, "55ff07e65b8aeca25131fd7b27191feb037126a25f72327e91356655e4f62dc7"), looks := false }, kinds := [], alts := [], laidByText := true, laidKinds := [.data, .data, .pinned], laidTests := true, laidLooks := .later }
def TraitTextsUptoCardSaid : Prop := Claim7.holds Tryd.pinned (.plain (OpenSpec.upto traitTextsSpec)) traitTextsUptoCard

/-- THE SECOND FORM's CARD OF 'gambitlaw04.TraitBack'. -/
def traitBackUptoCard : Claim7 := { stood := { row := traitBackUptoRow, standIns := [], harness := (true, "55ff07e65b8aeca25131fd7b27191feb037126a25f72327e91356655e4f62dc7"), looks := false }, kinds := [], alts := [], laidByText := true, laidKinds := [.data, .data, .pinned], laidTests := true, laidLooks := .later }
def TraitBackUptoCardSaid : Prop := Claim7.holds Tryd.pinned (.plain (OpenSpec.upto traitBackSpec)) traitBackUptoCard
end Rows
end Go.Proofs.YtaonlobknikbmaaDoor
