/-
  DERIVED. GIVEN WITH THE SEED: THE CARDS: each row of YtfafaeghnkmpcaaDoorRows.lean that lists a variable, with what it lists TIED to the program's text (the seventh form; the later family's looks); each row that meets fmt, with fmt's text TOLD by the authors' own Lean function (tested against real Go, not proved from fmt's source: count such statements apart). THE CARD IS WHAT COUNTS. Prove the row's statement (the work); the ties are given (YtfafaeghnkmpcaaDoorTie.lean); close each card by the builder's one call (the guide's Derived/Test/ToyasCard.lean, 'card_holds'). Laid BY PROGRAM, IN A SANDBOX (cutbox-door.mjs). By AI agents, Wed Nov 11 2026. No macro, syntax, notation, axiom, sorry.
-/
import Derived.Test.YtfafaeghnkmpcaaDoorRows
import GoSem.ClaimSeven
namespace Go.Proofs.YtfafaeghnkmpcaaDoor
namespace Rows

/-- THE TIED CARD OF 'gambitlaw03.SuitNames'. -/
def suitNamesCard : Claim7 := { stood := { row := suitNamesRow, standIns := [], harness := (true, "5bf5157a3c9dbc0ba1e6cc4757f1931556121a62a74905c6d62330b8621eb1be"), looks := false }, kinds := [], alts := [], laidByText := true, laidKinds := [.data], laidTests := true, laidLooks := .later }
def SuitNamesCardSaid : Prop := Claim7.holds Tryd.pinned (.plain (OpenSpec.ofChange suitNamesSpec)) suitNamesCard

/-- THE TIED CARD OF 'gambitlaw03.SuitAll'. -/
def suitAllCard : Claim7 := { stood := { row := suitAllRow, standIns := [], harness := (true, "5bf5157a3c9dbc0ba1e6cc4757f1931556121a62a74905c6d62330b8621eb1be"), looks := false }, kinds := [], alts := [], laidByText := true, laidKinds := [.data], laidTests := true, laidLooks := .later }
def SuitAllCardSaid : Prop := Claim7.holds Tryd.pinned (.plain (OpenSpec.ofChange suitAllSpec)) suitAllCard

/-- THE TIED CARD OF 'gambitlaw03.SuitRound'. -/
def suitRoundCard : Claim7 := { stood := { row := suitRoundRow, standIns := [], harness := (true, "5bf5157a3c9dbc0ba1e6cc4757f1931556121a62a74905c6d62330b8621eb1be"), looks := false }, kinds := [], alts := [], laidByText := true, laidKinds := [.data], laidTests := true, laidLooks := .later }
def SuitRoundCardSaid : Prop := Claim7.holds Tryd.pinned (.plain (OpenSpec.ofChange suitRoundSpec)) suitRoundCard

/-- THE TIED CARD OF 'gambitlaw03.SuitTells'. -/
def suitTellsCard : Claim7 := { stood := { row := suitTellsRow, standIns := [], harness := (true, "5bf5157a3c9dbc0ba1e6cc4757f1931556121a62a74905c6d62330b8621eb1be"), looks := false }, kinds := [], alts := [], laidByText := true, laidKinds := [.data], laidTests := true, laidLooks := .later }
def SuitTellsCardSaid : Prop := Claim7.holds Tryd.pinned (.plain (OpenSpec.ofChange suitTellsSpec)) suitTellsCard

/-- THE TIED CARD OF 'gambitlaw04.TraitNames'. -/
def traitNamesCard : Claim7 := { stood := { row := traitNamesRow, standIns := [], harness := (true, "5bf5157a3c9dbc0ba1e6cc4757f1931556121a62a74905c6d62330b8621eb1be"), looks := false }, kinds := [], alts := [], laidByText := true, laidKinds := [.data, .data, .pinned], laidTests := true, laidLooks := .later }
def TraitNamesCardSaid : Prop := Claim7.holds Tryd.pinned (.plain (OpenSpec.ofChange traitNamesSpec)) traitNamesCard

/-- THE TIED CARD OF 'gambitlaw04.TraitKnown'. -/
def traitKnownCard : Claim7 := { stood := { row := traitKnownRow, standIns := [], harness := (true, "5bf5157a3c9dbc0ba1e6cc4757f1931556121a62a74905c6d62330b8621eb1be"), looks := false }, kinds := [], alts := [], laidByText := true, laidKinds := [.data, .data, .pinned], laidTests := true, laidLooks := .later }
def TraitKnownCardSaid : Prop := Claim7.holds Tryd.pinned (.plain (OpenSpec.ofChange traitKnownSpec)) traitKnownCard

/-- THE TIED CARD OF 'gambitlaw04.TraitSets'. -/
def traitSetsCard : Claim7 := { stood := { row := traitSetsRow, standIns := [], harness := (true, "5bf5157a3c9dbc0ba1e6cc4757f1931556121a62a74905c6d62330b8621eb1be"), looks := false }, kinds := [], alts := [], laidByText := true, laidKinds := [.data], laidTests := true, laidLooks := .later }
def TraitSetsCardSaid : Prop := Claim7.holds Tryd.pinned (.plain (OpenSpec.ofChange traitSetsSpec)) traitSetsCard

/-- THE TIED CARD OF 'gambitlaw04.TraitBits'. -/
def traitBitsCard : Claim7 := { stood := { row := traitBitsRow, standIns := [], harness := (true, "5bf5157a3c9dbc0ba1e6cc4757f1931556121a62a74905c6d62330b8621eb1be"), looks := false }, kinds := [], alts := [], laidByText := true, laidKinds := [.data, .data, .pinned], laidTests := true, laidLooks := .later }
def TraitBitsCardSaid : Prop := Claim7.holds Tryd.pinned (.plain (OpenSpec.ofChange traitBitsSpec)) traitBitsCard

/-- THE SECOND FORM's CARD OF 'gambitlaw03.SuitNames'. -/
def suitNamesUptoCard : Claim7 := { stood := { row := suitNamesUptoRow, standIns := [], harness := (true, "5bf5157a3c9dbc0ba1e6cc4757f1931556121a62a74905c6d62330b8621eb1be"), looks := false }, kinds := [], alts := [], laidByText := true, laidKinds := [.data], laidTests := true, laidLooks := .later }
def SuitNamesUptoCardSaid : Prop := Claim7.holds Tryd.pinned (.plain (OpenSpec.upto suitNamesSpec)) suitNamesUptoCard

/-- THE SECOND FORM's CARD OF 'gambitlaw03.SuitAll'. -/
def suitAllUptoCard : Claim7 := { stood := { row := suitAllUptoRow, standIns := [], harness := (true, "5bf5157a3c9dbc0ba1e6cc4757f1931556121a62a74905c6d62330b8621eb1be"), looks := false }, kinds := [], alts := [], laidByText := true, laidKinds := [.data], laidTests := true, laidLooks := .later }
def SuitAllUptoCardSaid : Prop := Claim7.holds Tryd.pinned (.plain (OpenSpec.upto suitAllSpec)) suitAllUptoCard

/-- THE SECOND FORM's CARD OF 'gambitlaw03.SuitRound'. -/
def suitRoundUptoCard : Claim7 := { stood := { row := suitRoundUptoRow, standIns := [], harness := (true, "5bf5157a3c9dbc0ba1e6cc4757f1931556121a62a74905c6d62330b8621eb1be"), looks := false }, kinds := [], alts := [], laidByText := true, laidKinds := [.data], laidTests := true, laidLooks := .later }
def SuitRoundUptoCardSaid : Prop := Claim7.holds Tryd.pinned (.plain (OpenSpec.upto suitRoundSpec)) suitRoundUptoCard

/-- THE SECOND FORM's CARD OF 'gambitlaw03.SuitTells'. -/
def suitTellsUptoCard : Claim7 := { stood := { row := suitTellsUptoRow, standIns := [], harness := (true, "5bf5157a3c9dbc0ba1e6cc4757f1931556121a62a74905c6d62330b8621eb1be"), looks := false }, kinds := [], alts := [], laidByText := true, laidKinds := [.data], laidTests := true, laidLooks := .later }
def SuitTellsUptoCardSaid : Prop := Claim7.holds Tryd.pinned (.plain (OpenSpec.upto suitTellsSpec)) suitTellsUptoCard

/-- THE SECOND FORM's CARD OF 'gambitlaw04.TraitNames'. -/
def traitNamesUptoCard : Claim7 := { stood := { row := traitNamesUptoRow, standIns := [], harness := (true, "5bf5157a3c9dbc0ba1e6cc4757f1931556121a62a74905c6d62330b8621eb1be"), looks := false }, kinds := [], alts := [], laidByText := true, laidKinds := [.data, .data, .pinned], laidTests := true, laidLooks := .later }
def TraitNamesUptoCardSaid : Prop := Claim7.holds Tryd.pinned (.plain (OpenSpec.upto traitNamesSpec)) traitNamesUptoCard

/-- THE SECOND FORM's CARD OF 'gambitlaw04.TraitKnown'. -/
def traitKnownUptoCard : Claim7 := { stood := { row := traitKnownUptoRow, standIns := [], harness := (true, "5bf5157a3c9dbc0ba1e6cc4757f1931556121a62a74905c6d62330b8621eb1be"), looks := false }, kinds := [], alts := [], laidByText := true, laidKinds := [.data, .data, .pinned], laidTests := true, laidLooks := .later }
def TraitKnownUptoCardSaid : Prop := Claim7.holds Tryd.pinned (.plain (OpenSpec.upto traitKnownSpec)) traitKnownUptoCard

/-- THE SECOND FORM's CARD OF 'gambitlaw04.TraitSets'. -/
def traitSetsUptoCard : Claim7 := { stood := { row := traitSetsUptoRow, standIns := [], harness := (true, "5bf5157a3c9dbc0ba1e6cc4757f1931556121a62a74905c6d62330b8621eb1be"), looks := false }, kinds := [], alts := [], laidByText := true, laidKinds := [.data], laidTests := true, laidLooks := .later }
def TraitSetsUptoCardSaid : Prop := Claim7.holds Tryd.pinned (.plain (OpenSpec.upto traitSetsSpec)) traitSetsUptoCard

/-- THE SECOND FORM's CARD OF 'gambitlaw04.TraitBits'. -/
def traitBitsUptoCard : Claim7 := { stood := { row := traitBitsUptoRow, standIns := [], harness := (true, "5bf5157a3c9dbc0ba1e6cc4757f1931556121a62a74905c6d62330b8621eb1be"), looks := false }, kinds := [], alts := [], laidByText := true, laidKinds := [.data, .data, .pinned], laidTests := true, laidLooks := .later }
def TraitBitsUptoCardSaid : Prop := Claim7.holds Tryd.pinned (.plain (OpenSpec.upto traitBitsSpec)) traitBitsUptoCard
end Rows
end Go.Proofs.YtfafaeghnkmpcaaDoor
