/-
  NARROWER THAN 'FOR EVERY INPUT', by the rows' own cells (each row's printed sentence says how): ThingMarks: laid · BookNumbers: laid · ThingAdds: laid · BookOrder: laid · EarthFills: laid · VoidFills: laid.
  DERIVED. THE GIVEN ROWS OF THIS SEAT. 6 by the template 'for every input the law returns true; each argument reads behind the call as it read before'; 0 by the template 'total and deterministic' (their statements: YtdgbnaignpploaaDoorTotals.lean).
  GIVEN WITH THE SEED: the statements are not yours to turn. If you find one false, say at which input.
  Laid BY PROGRAM, IN A SANDBOX (cutbox-rows.mjs): the forced cells as the released guide's own fill.sh prints them over the translation 55fc09bf1fe2b375… (all of the seat's roots in one cut). By AI agents, Wed Nov 11 2026. No macro, syntax, notation, axiom, sorry.
-/
import Derived.Test.YtdgbnaignpploaaDoorChecked
import GoSem.PinnedTables
import GoSem.Claim
import GoSem.ClaimJoined
import GoSem.ClaimMapViews
import Derived.JoinedTies
import Derived.KernelRfl
namespace Go.Proofs.YtdgbnaignpploaaDoor
/- THE CELL 'sum', in the pinned program and in every row, IS THE sha256 OF THE DUMP (.gsa) THAT YtdgbnaignpploaaDoorProg.lean LOADS. Nothing in Lean hashes anything: it is a label: what it is worth is what the hold of that sum in a sandbox is worth. -/
noncomputable def Tryd.pinned : Pinned := { name := "ytdgbnaignpploaadoor", sum := "55fc09bf1fe2b375db9e0a7603e2f975449d565faae04636e4218130c32236c9", checked := Tryd.checked }
namespace Rows
def none {H : Type} : Left H := { results := [], args := [] }

/- WHAT THE LISTED PACKAGE-LEVEL VARIABLES READ AS WHEN THE CALL BEGINS. Each datum BY PROGRAM (the guide's laid-datum.mjs) off the statement by which the dump's own 'gosem.cut.vars' lays the variable. In a bare row this is a premise. The card (YtdgbnaignpploaaDoorCards.lean) ties it to the program's text. -/
def laid_unicode_utf8_acceptRanges {H : Type} : DataW H := .agg [.agg [.lit (.int .u8 128), .lit (.int .u8 191)], .agg [.lit (.int .u8 160), .lit (.int .u8 191)], .agg [.lit (.int .u8 128), .lit (.int .u8 159)], .agg [.lit (.int .u8 144), .lit (.int .u8 191)], .agg [.lit (.int .u8 128), .lit (.int .u8 143)], .agg [.lit (.int .u8 0), .lit (.int .u8 0)], .agg [.lit (.int .u8 0), .lit (.int .u8 0)], .agg [.lit (.int .u8 0), .lit (.int .u8 0)], .agg [.lit (.int .u8 0), .lit (.int .u8 0)], .agg [.lit (.int .u8 0), .lit (.int .u8 0)], .agg [.lit (.int .u8 0), .lit (.int .u8 0)], .agg [.lit (.int .u8 0), .lit (.int .u8 0)], .agg [.lit (.int .u8 0), .lit (.int .u8 0)], .agg [.lit (.int .u8 0), .lit (.int .u8 0)], .agg [.lit (.int .u8 0), .lit (.int .u8 0)], .agg [.lit (.int .u8 0), .lit (.int .u8 0)]]
/-- One of Go's own tables, pinned by name: the form's constant. -/
def laid_unicode_utf8_first : DataW Unit := Go.Pinned.utf8First

/-- 'gambitlaw18.ThingMarks': WHATEVER THE INPUT: true; the input reads as it did. -/
def thingMarksSpec : ChangeSpec := { name := "thingMarks", fn := fun _ => fun
  | [d1, d2, d3, d4] => { results := [.lit (.bool true)], args := [d1, d2, d3, d4] }
  | _ => none }
def thingMarksRow : OpenClaim := { program := "ytdgbnaignpploaadoor", sum := "55fc09bf1fe2b375db9e0a7603e2f975449d565faae04636e4218130c32236c9", func := "gambit/gambitlaw18.ThingMarks", spec := "thingMarks", inPlace := ["internal/bytealg.IndexByteString", "internal/bytealg.IndexString"], named := ["unicode/utf8.first", "unicode/utf8.acceptRanges", "internal/bytealg.MaxLen"], apart := false, laid := [("unicode/utf8.acceptRanges", laid_unicode_utf8_acceptRanges), ("unicode/utf8.first", laid_unicode_utf8_first)] }
def ThingMarksSaid : Prop := thingMarksRow.holds Tryd.pinned (OpenSpec.ofChange thingMarksSpec)

/-- ITS FALSE NEIGHBOUR: 'it returns false'. Refute it at one input. -/
def thingMarksWrong : ChangeSpec := { name := "thingMarks", fn := fun _ => fun
  | [d1, d2, d3, d4] => { results := [.lit (.bool false)], args := [d1, d2, d3, d4] }
  | _ => none }
def ThingMarksWrongFalsely : Prop := thingMarksRow.holds Tryd.pinned (OpenSpec.ofChange thingMarksWrong)

/-- 'gambitlaw07.BookNumbers': WHATEVER THE INPUT: true; the input reads as it did. -/
def bookNumbersSpec : ChangeSpec := { name := "bookNumbers", fn := fun _ => fun
  | [d1, d2] => { results := [.lit (.bool true)], args := [d1, d2] }
  | _ => none }
def bookNumbersRow : OpenClaim := { program := "ytdgbnaignpploaadoor", sum := "55fc09bf1fe2b375db9e0a7603e2f975449d565faae04636e4218130c32236c9", func := "gambit/gambitlaw07.BookNumbers", spec := "bookNumbers", inPlace := ["internal/bytealg.IndexByteString", "internal/bytealg.IndexString"], named := ["unicode/utf8.first", "unicode/utf8.acceptRanges", "internal/bytealg.MaxLen"], apart := false, laid := [("unicode/utf8.acceptRanges", laid_unicode_utf8_acceptRanges), ("unicode/utf8.first", laid_unicode_utf8_first)] }
def BookNumbersSaid : Prop := bookNumbersRow.holds Tryd.pinned (OpenSpec.ofChange bookNumbersSpec)

/-- ITS FALSE NEIGHBOUR: 'it returns false'. Refute it at one input. -/
def bookNumbersWrong : ChangeSpec := { name := "bookNumbers", fn := fun _ => fun
  | [d1, d2] => { results := [.lit (.bool false)], args := [d1, d2] }
  | _ => none }
def BookNumbersWrongFalsely : Prop := bookNumbersRow.holds Tryd.pinned (OpenSpec.ofChange bookNumbersWrong)

/-- 'gambitlaw18.ThingAdds': WHATEVER THE INPUT: true; the input reads as it did. -/
def thingAddsSpec : ChangeSpec := { name := "thingAdds", fn := fun _ => fun
  | [d1, d2, d3, d4, d5] => { results := [.lit (.bool true)], args := [d1, d2, d3, d4, d5] }
  | _ => none }
def thingAddsRow : OpenClaim := { program := "ytdgbnaignpploaadoor", sum := "55fc09bf1fe2b375db9e0a7603e2f975449d565faae04636e4218130c32236c9", func := "gambit/gambitlaw18.ThingAdds", spec := "thingAdds", inPlace := ["internal/bytealg.IndexByteString", "internal/bytealg.IndexString"], named := ["unicode/utf8.first", "unicode/utf8.acceptRanges", "internal/bytealg.MaxLen"], apart := false, laid := [("unicode/utf8.acceptRanges", laid_unicode_utf8_acceptRanges), ("unicode/utf8.first", laid_unicode_utf8_first)] }
def ThingAddsSaid : Prop := thingAddsRow.holds Tryd.pinned (OpenSpec.ofChange thingAddsSpec)

/-- ITS FALSE NEIGHBOUR: 'it returns false'. Refute it at one input. -/
def thingAddsWrong : ChangeSpec := { name := "thingAdds", fn := fun _ => fun
  | [d1, d2, d3, d4, d5] => { results := [.lit (.bool false)], args := [d1, d2, d3, d4, d5] }
  | _ => none }
def ThingAddsWrongFalsely : Prop := thingAddsRow.holds Tryd.pinned (OpenSpec.ofChange thingAddsWrong)

/-- 'gambitlaw07.BookOrder': WHATEVER THE INPUT: true; the input reads as it did. -/
def bookOrderSpec : ChangeSpec := { name := "bookOrder", fn := fun _ => fun
  | [d1, d2, d3] => { results := [.lit (.bool true)], args := [d1, d2, d3] }
  | _ => none }
def bookOrderRow : OpenClaim := { program := "ytdgbnaignpploaadoor", sum := "55fc09bf1fe2b375db9e0a7603e2f975449d565faae04636e4218130c32236c9", func := "gambit/gambitlaw07.BookOrder", spec := "bookOrder", inPlace := ["internal/bytealg.IndexByteString", "internal/bytealg.IndexString"], unfollowed := true, recurses := true, named := ["unicode/utf8.first", "unicode/utf8.acceptRanges", "internal/bytealg.MaxLen"], apart := false, laid := [("unicode/utf8.acceptRanges", laid_unicode_utf8_acceptRanges), ("unicode/utf8.first", laid_unicode_utf8_first)] }
def BookOrderSaid : Prop := bookOrderRow.holds Tryd.pinned (OpenSpec.ofChange bookOrderSpec)

/-- ITS FALSE NEIGHBOUR: 'it returns false'. Refute it at one input. -/
def bookOrderWrong : ChangeSpec := { name := "bookOrder", fn := fun _ => fun
  | [d1, d2, d3] => { results := [.lit (.bool false)], args := [d1, d2, d3] }
  | _ => none }
def BookOrderWrongFalsely : Prop := bookOrderRow.holds Tryd.pinned (OpenSpec.ofChange bookOrderWrong)

/-- 'gambitlaw09.EarthFills': WHATEVER THE INPUT: true; the input reads as it did. -/
def earthFillsSpec : ChangeSpec := { name := "earthFills", fn := fun _ => fun
  | [d1, d2] => { results := [.lit (.bool true)], args := [d1, d2] }
  | _ => none }
def earthFillsRow : OpenClaim := { program := "ytdgbnaignpploaadoor", sum := "55fc09bf1fe2b375db9e0a7603e2f975449d565faae04636e4218130c32236c9", func := "gambit/gambitlaw09.EarthFills", spec := "earthFills", inPlace := ["internal/bytealg.IndexByteString", "internal/bytealg.IndexString"], unfollowed := true, recurses := true, named := ["unicode/utf8.first", "unicode/utf8.acceptRanges", "internal/bytealg.MaxLen"], apart := false, laid := [("unicode/utf8.acceptRanges", laid_unicode_utf8_acceptRanges), ("unicode/utf8.first", laid_unicode_utf8_first)] }
def EarthFillsSaid : Prop := earthFillsRow.holds Tryd.pinned (OpenSpec.ofChange earthFillsSpec)

/-- ITS FALSE NEIGHBOUR: 'it returns false'. Refute it at one input. -/
def earthFillsWrong : ChangeSpec := { name := "earthFills", fn := fun _ => fun
  | [d1, d2] => { results := [.lit (.bool false)], args := [d1, d2] }
  | _ => none }
def EarthFillsWrongFalsely : Prop := earthFillsRow.holds Tryd.pinned (OpenSpec.ofChange earthFillsWrong)

/-- 'gambitlaw12.VoidFills': WHATEVER THE INPUT: true; the input reads as it did. -/
def voidFillsSpec : ChangeSpec := { name := "voidFills", fn := fun _ => fun
  | [d1, d2] => { results := [.lit (.bool true)], args := [d1, d2] }
  | _ => none }
def voidFillsRow : OpenClaim := { program := "ytdgbnaignpploaadoor", sum := "55fc09bf1fe2b375db9e0a7603e2f975449d565faae04636e4218130c32236c9", func := "gambit/gambitlaw12.VoidFills", spec := "voidFills", inPlace := ["internal/bytealg.IndexByteString", "internal/bytealg.IndexString"], unfollowed := true, recurses := true, named := ["unicode/utf8.first", "unicode/utf8.acceptRanges", "internal/bytealg.MaxLen"], apart := false, laid := [("unicode/utf8.acceptRanges", laid_unicode_utf8_acceptRanges), ("unicode/utf8.first", laid_unicode_utf8_first)] }
def VoidFillsSaid : Prop := voidFillsRow.holds Tryd.pinned (OpenSpec.ofChange voidFillsSpec)

/-- ITS FALSE NEIGHBOUR: 'it returns false'. Refute it at one input. -/
def voidFillsWrong : ChangeSpec := { name := "voidFills", fn := fun _ => fun
  | [d1, d2] => { results := [.lit (.bool false)], args := [d1, d2] }
  | _ => none }
def VoidFillsWrongFalsely : Prop := voidFillsRow.holds Tryd.pinned (OpenSpec.ofChange voidFillsWrong)

/- THE SECOND FORM. 'bulk': how many values and letters a reading holds, each counted each time it is reached (what is shared counts as often as it is met; a slice's spare places count too). A statement '..UptoSaid' is the law's where the arguments, and the package variables that the reading takes, are together of bulk at most 1048576: NARROWER than '..Said'. Prove '..Said' where nothing that the law and all that it calls make is longer than what came in: it says more and counts as full. Else prove '..UptoSaid'. A law counts once. -/
mutual
def uptoBulk {H : Type} : DataW H → Nat
  | .lit (.string bytes) => bytes.length + 1
  | .lit _ => 1
  | .nil => 1
  | .ptr d => uptoBulk d + 1
  | .slice elems spare => uptoBulkAll elems + uptoBulkAll spare + 1
  | .agg parts => uptoBulkAll parts + 1
  | .iface _ d => uptoBulk d + 1
  | .map entries => uptoBulkEntries entries + 1
  | .held _ => 1
def uptoBulkAll {H : Type} : List (DataW H) → Nat
  | [] => 0
  | d :: r => uptoBulk d + uptoBulkAll r
def uptoBulkEntries {H : Type} : List (Lit × DataW H) → Nat
  | [] => 0
  | x :: r => uptoBulkEntry x + uptoBulkEntries r
def uptoBulkEntry {H : Type} : Lit × DataW H → Nat
  | (.string bytes, d) => bytes.length + uptoBulk d + 1
  | (_, d) => uptoBulk d + 1
 end
def uptoSmall : (H : Type) → List (DataW H) → Bool := fun _ ds => decide (uptoBulkAll ds ≤ 1048576)
def OpenSpec.upto (s : _root_.Go.ChangeSpec) : _root_.Go.OpenSpec := { _root_.Go.OpenSpec.ofChange s with cond := some uptoSmall }

/-- 'gambitlaw18.ThingMarks', WHERE WHAT IT READS IS OF BULK AT MOST 1048576: true; the input reads as it did. -/
def thingMarksUptoRow : OpenClaim := { program := "ytdgbnaignpploaadoor", sum := "55fc09bf1fe2b375db9e0a7603e2f975449d565faae04636e4218130c32236c9", func := "gambit/gambitlaw18.ThingMarks", spec := "thingMarks", inPlace := ["internal/bytealg.IndexByteString", "internal/bytealg.IndexString"], named := ["unicode/utf8.first", "unicode/utf8.acceptRanges", "internal/bytealg.MaxLen"], apart := false, laid := [("unicode/utf8.acceptRanges", laid_unicode_utf8_acceptRanges), ("unicode/utf8.first", laid_unicode_utf8_first)], narrowed := true }
def ThingMarksUptoSaid : Prop := thingMarksUptoRow.holds Tryd.pinned (OpenSpec.upto thingMarksSpec)

/-- 'gambitlaw07.BookNumbers', WHERE WHAT IT READS IS OF BULK AT MOST 1048576: true; the input reads as it did. -/
def bookNumbersUptoRow : OpenClaim := { program := "ytdgbnaignpploaadoor", sum := "55fc09bf1fe2b375db9e0a7603e2f975449d565faae04636e4218130c32236c9", func := "gambit/gambitlaw07.BookNumbers", spec := "bookNumbers", inPlace := ["internal/bytealg.IndexByteString", "internal/bytealg.IndexString"], named := ["unicode/utf8.first", "unicode/utf8.acceptRanges", "internal/bytealg.MaxLen"], apart := false, laid := [("unicode/utf8.acceptRanges", laid_unicode_utf8_acceptRanges), ("unicode/utf8.first", laid_unicode_utf8_first)], narrowed := true }
def BookNumbersUptoSaid : Prop := bookNumbersUptoRow.holds Tryd.pinned (OpenSpec.upto bookNumbersSpec)

/-- 'gambitlaw18.ThingAdds', WHERE WHAT IT READS IS OF BULK AT MOST 1048576: true; the input reads as it did. -/
def thingAddsUptoRow : OpenClaim := { program := "ytdgbnaignpploaadoor", sum := "55fc09bf1fe2b375db9e0a7603e2f975449d565faae04636e4218130c32236c9", func := "gambit/gambitlaw18.ThingAdds", spec := "thingAdds", inPlace := ["internal/bytealg.IndexByteString", "internal/bytealg.IndexString"], named := ["unicode/utf8.first", "unicode/utf8.acceptRanges", "internal/bytealg.MaxLen"], apart := false, laid := [("unicode/utf8.acceptRanges", laid_unicode_utf8_acceptRanges), ("unicode/utf8.first", laid_unicode_utf8_first)], narrowed := true }
def ThingAddsUptoSaid : Prop := thingAddsUptoRow.holds Tryd.pinned (OpenSpec.upto thingAddsSpec)

/-- 'gambitlaw07.BookOrder', WHERE WHAT IT READS IS OF BULK AT MOST 1048576: true; the input reads as it did. -/
def bookOrderUptoRow : OpenClaim := { program := "ytdgbnaignpploaadoor", sum := "55fc09bf1fe2b375db9e0a7603e2f975449d565faae04636e4218130c32236c9", func := "gambit/gambitlaw07.BookOrder", spec := "bookOrder", inPlace := ["internal/bytealg.IndexByteString", "internal/bytealg.IndexString"], unfollowed := true, recurses := true, named := ["unicode/utf8.first", "unicode/utf8.acceptRanges", "internal/bytealg.MaxLen"], apart := false, laid := [("unicode/utf8.acceptRanges", laid_unicode_utf8_acceptRanges), ("unicode/utf8.first", laid_unicode_utf8_first)], narrowed := true }
def BookOrderUptoSaid : Prop := bookOrderUptoRow.holds Tryd.pinned (OpenSpec.upto bookOrderSpec)

/-- 'gambitlaw09.EarthFills', WHERE WHAT IT READS IS OF BULK AT MOST 1048576: true; the input reads as it did. -/
def earthFillsUptoRow : OpenClaim := { program := "ytdgbnaignpploaadoor", sum := "55fc09bf1fe2b375db9e0a7603e2f975449d565faae04636e4218130c32236c9", func := "gambit/gambitlaw09.EarthFills", spec := "earthFills", inPlace := ["internal/bytealg.IndexByteString", "internal/bytealg.IndexString"], unfollowed := true, recurses := true, named := ["unicode/utf8.first", "unicode/utf8.acceptRanges", "internal/bytealg.MaxLen"], apart := false, laid := [("unicode/utf8.acceptRanges", laid_unicode_utf8_acceptRanges), ("unicode/utf8.first", laid_unicode_utf8_first)], narrowed := true }
def EarthFillsUptoSaid : Prop := earthFillsUptoRow.holds Tryd.pinned (OpenSpec.upto earthFillsSpec)

/-- 'gambitlaw12.VoidFills', WHERE WHAT IT READS IS OF BULK AT MOST 1048576: true; the input reads as it did. -/
def voidFillsUptoRow : OpenClaim := { program := "ytdgbnaignpploaadoor", sum := "55fc09bf1fe2b375db9e0a7603e2f975449d565faae04636e4218130c32236c9", func := "gambit/gambitlaw12.VoidFills", spec := "voidFills", inPlace := ["internal/bytealg.IndexByteString", "internal/bytealg.IndexString"], unfollowed := true, recurses := true, named := ["unicode/utf8.first", "unicode/utf8.acceptRanges", "internal/bytealg.MaxLen"], apart := false, laid := [("unicode/utf8.acceptRanges", laid_unicode_utf8_acceptRanges), ("unicode/utf8.first", laid_unicode_utf8_first)], narrowed := true }
def VoidFillsUptoSaid : Prop := voidFillsUptoRow.holds Tryd.pinned (OpenSpec.upto voidFillsSpec)

end Rows
end Go.Proofs.YtdgbnaignpploaaDoor
