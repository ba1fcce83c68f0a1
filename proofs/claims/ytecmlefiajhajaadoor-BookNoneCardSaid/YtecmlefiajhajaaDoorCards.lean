/-
  DERIVED. GIVEN WITH THE SEED: THE CARDS: each row of YtecmlefiajhajaaDoorRows.lean that lists a variable, with what it lists TIED to the program's text (the seventh form; the later family's looks); each row that meets fmt, with fmt's text TOLD by the authors' own Lean function (tested against real Go, not proved from fmt's source: count such statements apart). THE CARD IS WHAT COUNTS. Prove the row's statement (the work); the ties are given (YtecmlefiajhajaaDoorTie.lean); close each card by the builder's one call (the guide's Derived/Test/ToyasCard.lean, 'card_holds'). Laid BY PROGRAM, IN A SANDBOX (cutbox-door.mjs). By AI agents, Wed Nov 11 2026. No macro, syntax, notation, axiom, sorry.
-/
import Derived.Test.YtecmlefiajhajaaDoorRows
import GoSem.ClaimSeven
namespace Go.Proofs.YtecmlefiajhajaaDoor
namespace Rows

/-- THE TIED CARD OF 'gambitlaw18.ThingMarks'. -/
def thingMarksCard : Claim7 := { stood := { row := thingMarksRow, standIns := [], harness := (true, "ba726844b852fb7c9f4f403ca348ed5cc2289b1ee72051556d740a4cc6ba101e"), looks := false }, kinds := [], alts := [], laidByText := true, laidKinds := [.data, .pinned], laidTests := true, laidLooks := .later }
def ThingMarksCardSaid : Prop := Claim7.holds Tryd.pinned (.plain (OpenSpec.ofChange thingMarksSpec)) thingMarksCard

/-- THE TIED CARD OF 'gambitlaw07.BookNumbers'. -/
def bookNumbersCard : Claim7 := { stood := { row := bookNumbersRow, standIns := [], harness := (true, "ba726844b852fb7c9f4f403ca348ed5cc2289b1ee72051556d740a4cc6ba101e"), looks := false }, kinds := [], alts := [], laidByText := true, laidKinds := [.data, .pinned], laidTests := true, laidLooks := .later }
def BookNumbersCardSaid : Prop := Claim7.holds Tryd.pinned (.plain (OpenSpec.ofChange bookNumbersSpec)) bookNumbersCard

/-- THE TIED CARD OF 'gambitlaw18.ThingAdds'. -/
def thingAddsCard : Claim7 := { stood := { row := thingAddsRow, standIns := [], harness := (true, "ba726844b852fb7c9f4f403ca348ed5cc2289b1ee72051556d740a4cc6ba101e"), looks := false }, kinds := [], alts := [], laidByText := true, laidKinds := [.data, .pinned], laidTests := true, laidLooks := .later }
def ThingAddsCardSaid : Prop := Claim7.holds Tryd.pinned (.plain (OpenSpec.ofChange thingAddsSpec)) thingAddsCard

/-- THE TIED CARD OF 'gambitlaw07.BookOrder'. -/
def bookOrderCard : Claim7 := { stood := { row := bookOrderRow, standIns := [], harness := (true, "ba726844b852fb7c9f4f403ca348ed5cc2289b1ee72051556d740a4cc6ba101e"), looks := false }, kinds := [], alts := [], laidByText := true, laidKinds := [.data, .pinned], laidTests := true, laidLooks := .later }
def BookOrderCardSaid : Prop := Claim7.holds Tryd.pinned (.plain (OpenSpec.ofChange bookOrderSpec)) bookOrderCard

/-- THE TIED CARD OF 'gambitlaw07.BookNone'. -/
def bookNoneCard : Claim7 := { stood := { row := bookNoneRow, standIns := [], harness := (true, "ba726844b852fb7c9f4f403ca348ed5cc2289b1ee72051556d740a4cc6ba101e"), looks := false }, kinds := [], alts := [], laidByText := true, laidKinds := [.data, .pinned], laidTests := true, laidLooks := .later }
def BookNoneCardSaid : Prop := Claim7.holds Tryd.pinned (.plain (OpenSpec.ofChange bookNoneSpec)) bookNoneCard

/-- THE SECOND FORM's CARD OF 'gambitlaw18.ThingMarks'. -/
def thingMarksUptoCard : Claim7 := { stood := { row := thingMarksUptoRow, standIns := [], harness := (true, "ba726844b852fb7c9f4f403ca348ed5cc2289b1ee72051556d740a4cc6ba101e"), looks := false }, kinds := [], alts := [], laidByText := true, laidKinds := [.data, .pinned], laidTests := true, laidLooks := .later }
def ThingMarksUptoCardSaid : Prop := Claim7.holds Tryd.pinned (.plain (OpenSpec.upto thingMarksSpec)) thingMarksUptoCard

/-- THE SECOND FORM's CARD OF 'gambitlaw07.BookNumbers'. -/
def bookNumbersUptoCard : Claim7 := { stood := { row := bookNumbersUptoRow, standIns := [], harness := (true, "ba726844b852fb7c9f4f403ca348ed5cc2289b1ee72051556d740a4cc6ba101e"), looks := false }, kinds := [], alts := [], laidByText := true, laidKinds := [.data, .pinned], laidTests := true, laidLooks := .later }
def BookNumbersUptoCardSaid : Prop := Claim7.holds Tryd.pinned (.plain (OpenSpec.upto bookNumbersSpec)) bookNumbersUptoCard

/-- THE SECOND FORM's CARD OF 'gambitlaw18.ThingAdds'. -/
def thingAddsUptoCard : Claim7 := { stood := { row := thingAddsUptoRow, standIns := [], harness := (true, "ba726844b852fb7c9f4f403ca348ed5cc2289b1ee72051556d740a4cc6ba101e"), looks := false }, kinds := [], alts := [], laidByText := true, laidKinds := [.data, .pinned], laidTests := true, laidLooks := .later }
def ThingAddsUptoCardSaid : Prop := Claim7.holds Tryd.pinned (.plain (OpenSpec.upto thingAddsSpec)) thingAddsUptoCard

/-- THE SECOND FORM's CARD OF 'gambitlaw07.BookOrder'. -/
def bookOrderUptoCard : Claim7 := { stood := { row := bookOrderUptoRow, standIns := [], harness := (true, "ba726844b852fb7c9f4f403ca348ed5cc2289b1ee72051556d740a4cc6ba101e"), looks := false }, kinds := [], alts := [], laidByText := true, laidKinds := [.data, .pinned], laidTests := true, laidLooks := .later }
def BookOrderUptoCardSaid : Prop := Claim7.holds Tryd.pinned (.plain (OpenSpec.upto bookOrderSpec)) bookOrderUptoCard

/-- THE SECOND FORM's CARD OF 'gambitlaw07.BookNone'. -/
def bookNoneUptoCard : Claim7 := { stood := { row := bookNoneUptoRow, standIns := [], harness := (true, "ba726844b852fb7c9f4f403ca348ed5cc2289b1ee72051556d740a4cc6ba101e"), looks := false }, kinds := [], alts := [], laidByText := true, laidKinds := [.data, .pinned], laidTests := true, laidLooks := .later }
def BookNoneUptoCardSaid : Prop := Claim7.holds Tryd.pinned (.plain (OpenSpec.upto bookNoneSpec)) bookNoneUptoCard
end Rows
end Go.Proofs.YtecmlefiajhajaaDoor
