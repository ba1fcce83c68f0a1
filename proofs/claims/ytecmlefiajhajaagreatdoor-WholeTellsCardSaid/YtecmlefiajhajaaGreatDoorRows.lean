/-
  NARROWER THAN 'FOR EVERY INPUT', by the rows' own cells (each row's printed sentence says how): ThingTells: laid · BookScript: laid · WholeNames: laid · WholeTells: laid · WholeAgain: laid · WholeStands: laid · WholeBegins: laid.
  DERIVED. THE GIVEN ROWS OF THIS SEAT. 7 by the template 'for every input the law returns true; each argument reads behind the call as it read before'; 0 by the template 'total and deterministic' (their statements: YtecmlefiajhajaaGreatDoorTotals.lean).
  GIVEN WITH THE SEED: the statements are not yours to turn. If you find one false, say at which input.
  Laid BY PROGRAM, IN A SANDBOX (cutbox-rows.mjs): the forced cells as the released guide's own fill.sh prints them over the translation be593698ce5045ff… (all of the seat's roots in one cut). By AI agents, Wed Nov 11 2026. No macro, syntax, notation, axiom, sorry.
-/
import Derived.Test.YtecmlefiajhajaaGreatDoorChecked
import GoSem.PinnedTables
import GoSem.Claim
import GoSem.ClaimJoined
import GoSem.ClaimMapViews
import Derived.JoinedTies
import Derived.KernelRfl
namespace Go.Proofs.YtecmlefiajhajaaGreatDoor
/- THE CELL 'sum', in the pinned program and in every row, IS THE sha256 OF THE DUMP (.gsa) THAT YtecmlefiajhajaaGreatDoorProg.lean LOADS. Nothing in Lean hashes anything: it is a label: what it is worth is what the hold of that sum in a sandbox is worth. -/
noncomputable def Tryz.pinned : Pinned := { name := "ytecmlefiajhajaagreatdoor", sum := "be593698ce5045ff76592638fb598f7518eee1b8785d1b3293df1207ba266f57", checked := Tryz.checked }
namespace Rows
def none {H : Type} : Left H := { results := [], args := [] }

/- WHAT THE LISTED PACKAGE-LEVEL VARIABLES READ AS WHEN THE CALL BEGINS. Each datum BY PROGRAM (the guide's laid-datum.mjs) off the statement by which the dump's own 'gosem.cut.vars' lays the variable. In a bare row this is a premise. The card (YtecmlefiajhajaaGreatDoorCards.lean) ties it to the program's text. -/
def laid_unicode_utf8_acceptRanges {H : Type} : DataW H := .agg [.agg [.lit (.int .u8 128), .lit (.int .u8 191)], .agg [.lit (.int .u8 160), .lit (.int .u8 191)], .agg [.lit (.int .u8 128), .lit (.int .u8 159)], .agg [.lit (.int .u8 144), .lit (.int .u8 191)], .agg [.lit (.int .u8 128), .lit (.int .u8 143)], .agg [.lit (.int .u8 0), .lit (.int .u8 0)], .agg [.lit (.int .u8 0), .lit (.int .u8 0)], .agg [.lit (.int .u8 0), .lit (.int .u8 0)], .agg [.lit (.int .u8 0), .lit (.int .u8 0)], .agg [.lit (.int .u8 0), .lit (.int .u8 0)], .agg [.lit (.int .u8 0), .lit (.int .u8 0)], .agg [.lit (.int .u8 0), .lit (.int .u8 0)], .agg [.lit (.int .u8 0), .lit (.int .u8 0)], .agg [.lit (.int .u8 0), .lit (.int .u8 0)], .agg [.lit (.int .u8 0), .lit (.int .u8 0)], .agg [.lit (.int .u8 0), .lit (.int .u8 0)]]
/-- One of Go's own tables, pinned by name: the form's constant. -/
def laid_unicode_utf8_first : DataW Unit := Go.Pinned.utf8First
def laid_gambit_trait_names {H : Type} : DataW H := .agg [.lit (.string []), .lit (.string [102, 97, 115, 116]), .lit (.string [103, 117, 97, 114, 100]), .lit (.string [118, 101, 110, 111, 109]), .lit (.string [108, 111, 110, 101]), .lit (.string [100, 114, 97, 105, 110]), .lit (.string [109, 117, 116, 101]), .lit (.string [102, 105, 120, 101, 100]), .lit (.string [115, 119, 105, 102, 116])]

/-- 'gambitlaw18.ThingTells': WHATEVER THE INPUT: true; the input reads as it did. -/
def thingTellsSpec : ChangeSpec := { name := "thingTells", fn := fun _ => fun
  | [d1, d2, d3] => { results := [.lit (.bool true)], args := [d1, d2, d3] }
  | _ => none }
def thingTellsRow : OpenClaim := { program := "ytecmlefiajhajaagreatdoor", sum := "be593698ce5045ff76592638fb598f7518eee1b8785d1b3293df1207ba266f57", func := "gambit/gambitlaw18.ThingTells", spec := "thingTells", inPlace := ["internal/bytealg.IndexByteString", "internal/bytealg.IndexString"], named := ["unicode/utf8.first", "unicode/utf8.acceptRanges", "internal/bytealg.MaxLen"], apart := false, laid := [("unicode/utf8.acceptRanges", laid_unicode_utf8_acceptRanges), ("unicode/utf8.first", laid_unicode_utf8_first)] }
def ThingTellsSaid : Prop := thingTellsRow.holds Tryz.pinned (OpenSpec.ofChange thingTellsSpec)

/-- ITS FALSE NEIGHBOUR: 'it returns false'. Refute it at one input. -/
def thingTellsWrong : ChangeSpec := { name := "thingTells", fn := fun _ => fun
  | [d1, d2, d3] => { results := [.lit (.bool false)], args := [d1, d2, d3] }
  | _ => none }
def ThingTellsWrongFalsely : Prop := thingTellsRow.holds Tryz.pinned (OpenSpec.ofChange thingTellsWrong)

/-- 'gambitlaw07.BookScript': WHATEVER THE INPUT: true; the input reads as it did. -/
def bookScriptSpec : ChangeSpec := { name := "bookScript", fn := fun _ => fun
  | [d] => { results := [.lit (.bool true)], args := [d] }
  | _ => none }
def bookScriptRow : OpenClaim := { program := "ytecmlefiajhajaagreatdoor", sum := "be593698ce5045ff76592638fb598f7518eee1b8785d1b3293df1207ba266f57", func := "gambit/gambitlaw07.BookScript", spec := "bookScript", inPlace := ["internal/bytealg.IndexByteString", "internal/bytealg.IndexString"], unfollowed := true, recurses := true, named := ["unicode/utf8.first", "unicode/utf8.acceptRanges", "internal/bytealg.MaxLen"], apart := false, laid := [("unicode/utf8.acceptRanges", laid_unicode_utf8_acceptRanges), ("unicode/utf8.first", laid_unicode_utf8_first)] }
def BookScriptSaid : Prop := bookScriptRow.holds Tryz.pinned (OpenSpec.ofChange bookScriptSpec)

/-- ITS FALSE NEIGHBOUR: 'it returns false'. Refute it at one input. -/
def bookScriptWrong : ChangeSpec := { name := "bookScript", fn := fun _ => fun
  | [d] => { results := [.lit (.bool false)], args := [d] }
  | _ => none }
def BookScriptWrongFalsely : Prop := bookScriptRow.holds Tryz.pinned (OpenSpec.ofChange bookScriptWrong)

/-- 'gambitlaw14.WholeNames': WHATEVER THE INPUT: true; the input reads as it did. -/
def wholeNamesSpec : ChangeSpec := { name := "wholeNames", fn := fun _ => fun
  | [] => { results := [.lit (.bool true)], args := [] }
  | _ => none }
def wholeNamesRow : OpenClaim := { program := "ytecmlefiajhajaagreatdoor", sum := "be593698ce5045ff76592638fb598f7518eee1b8785d1b3293df1207ba266f57", func := "gambit/gambitlaw14.WholeNames", spec := "wholeNames", inPlace := ["internal/bytealg.IndexByteString", "internal/bytealg.IndexString"], unfollowed := true, recurses := true, named := ["gambit/trait.names", "unicode/utf8.first", "unicode/utf8.acceptRanges", "internal/bytealg.MaxLen"], apart := false, laid := [("unicode/utf8.acceptRanges", laid_unicode_utf8_acceptRanges), ("gambit/trait.names", laid_gambit_trait_names), ("unicode/utf8.first", laid_unicode_utf8_first)] }
def WholeNamesSaid : Prop := wholeNamesRow.holds Tryz.pinned (OpenSpec.ofChange wholeNamesSpec)

/-- ITS FALSE NEIGHBOUR: 'it returns false'. Refute it at one input. -/
def wholeNamesWrong : ChangeSpec := { name := "wholeNames", fn := fun _ => fun
  | [] => { results := [.lit (.bool false)], args := [] }
  | _ => none }
def WholeNamesWrongFalsely : Prop := wholeNamesRow.holds Tryz.pinned (OpenSpec.ofChange wholeNamesWrong)

/-- 'gambitlaw14.WholeTells': WHATEVER THE INPUT: true; the input reads as it did. -/
def wholeTellsSpec : ChangeSpec := { name := "wholeTells", fn := fun _ => fun
  | [] => { results := [.lit (.bool true)], args := [] }
  | _ => none }
def wholeTellsRow : OpenClaim := { program := "ytecmlefiajhajaagreatdoor", sum := "be593698ce5045ff76592638fb598f7518eee1b8785d1b3293df1207ba266f57", func := "gambit/gambitlaw14.WholeTells", spec := "wholeTells", inPlace := ["internal/bytealg.IndexByteString", "internal/bytealg.IndexString"], unfollowed := true, recurses := true, named := ["gambit/trait.names", "unicode/utf8.first", "unicode/utf8.acceptRanges", "internal/bytealg.MaxLen"], apart := false, laid := [("unicode/utf8.acceptRanges", laid_unicode_utf8_acceptRanges), ("gambit/trait.names", laid_gambit_trait_names), ("unicode/utf8.first", laid_unicode_utf8_first)] }
def WholeTellsSaid : Prop := wholeTellsRow.holds Tryz.pinned (OpenSpec.ofChange wholeTellsSpec)

/-- ITS FALSE NEIGHBOUR: 'it returns false'. Refute it at one input. -/
def wholeTellsWrong : ChangeSpec := { name := "wholeTells", fn := fun _ => fun
  | [] => { results := [.lit (.bool false)], args := [] }
  | _ => none }
def WholeTellsWrongFalsely : Prop := wholeTellsRow.holds Tryz.pinned (OpenSpec.ofChange wholeTellsWrong)

/-- 'gambitlaw14.WholeAgain': WHATEVER THE INPUT: true; the input reads as it did. -/
def wholeAgainSpec : ChangeSpec := { name := "wholeAgain", fn := fun _ => fun
  | [d1, d2] => { results := [.lit (.bool true)], args := [d1, d2] }
  | _ => none }
def wholeAgainRow : OpenClaim := { program := "ytecmlefiajhajaagreatdoor", sum := "be593698ce5045ff76592638fb598f7518eee1b8785d1b3293df1207ba266f57", func := "gambit/gambitlaw14.WholeAgain", spec := "wholeAgain", inPlace := ["internal/bytealg.IndexByteString", "internal/bytealg.IndexString"], unfollowed := true, recurses := true, named := ["gambit/trait.names", "unicode/utf8.first", "unicode/utf8.acceptRanges", "internal/bytealg.MaxLen"], apart := false, laid := [("unicode/utf8.acceptRanges", laid_unicode_utf8_acceptRanges), ("gambit/trait.names", laid_gambit_trait_names), ("unicode/utf8.first", laid_unicode_utf8_first)] }
def WholeAgainSaid : Prop := wholeAgainRow.holds Tryz.pinned (OpenSpec.ofChange wholeAgainSpec)

/-- ITS FALSE NEIGHBOUR: 'it returns false'. Refute it at one input. -/
def wholeAgainWrong : ChangeSpec := { name := "wholeAgain", fn := fun _ => fun
  | [d1, d2] => { results := [.lit (.bool false)], args := [d1, d2] }
  | _ => none }
def WholeAgainWrongFalsely : Prop := wholeAgainRow.holds Tryz.pinned (OpenSpec.ofChange wholeAgainWrong)

/-- 'gambitlaw14.WholeStands': WHATEVER THE INPUT: true; the input reads as it did. -/
def wholeStandsSpec : ChangeSpec := { name := "wholeStands", fn := fun _ => fun
  | [] => { results := [.lit (.bool true)], args := [] }
  | _ => none }
def wholeStandsRow : OpenClaim := { program := "ytecmlefiajhajaagreatdoor", sum := "be593698ce5045ff76592638fb598f7518eee1b8785d1b3293df1207ba266f57", func := "gambit/gambitlaw14.WholeStands", spec := "wholeStands", inPlace := ["internal/bytealg.IndexByteString", "internal/bytealg.IndexString"], unfollowed := true, recurses := true, named := ["gambit/trait.names", "unicode/utf8.first", "unicode/utf8.acceptRanges", "internal/bytealg.MaxLen"], apart := false, laid := [("unicode/utf8.acceptRanges", laid_unicode_utf8_acceptRanges), ("gambit/trait.names", laid_gambit_trait_names), ("unicode/utf8.first", laid_unicode_utf8_first)] }
def WholeStandsSaid : Prop := wholeStandsRow.holds Tryz.pinned (OpenSpec.ofChange wholeStandsSpec)

/-- ITS FALSE NEIGHBOUR: 'it returns false'. Refute it at one input. -/
def wholeStandsWrong : ChangeSpec := { name := "wholeStands", fn := fun _ => fun
  | [] => { results := [.lit (.bool false)], args := [] }
  | _ => none }
def WholeStandsWrongFalsely : Prop := wholeStandsRow.holds Tryz.pinned (OpenSpec.ofChange wholeStandsWrong)

/-- 'gambitlaw14.WholeBegins': WHATEVER THE INPUT: true; the input reads as it did. -/
def wholeBeginsSpec : ChangeSpec := { name := "wholeBegins", fn := fun _ => fun
  | [d1, d2] => { results := [.lit (.bool true)], args := [d1, d2] }
  | _ => none }
def wholeBeginsRow : OpenClaim := { program := "ytecmlefiajhajaagreatdoor", sum := "be593698ce5045ff76592638fb598f7518eee1b8785d1b3293df1207ba266f57", func := "gambit/gambitlaw14.WholeBegins", spec := "wholeBegins", inPlace := ["internal/bytealg.IndexByteString", "internal/bytealg.IndexString"], unfollowed := true, recurses := true, named := ["gambit/trait.names", "unicode/utf8.first", "unicode/utf8.acceptRanges", "internal/bytealg.MaxLen"], apart := false, laid := [("unicode/utf8.acceptRanges", laid_unicode_utf8_acceptRanges), ("gambit/trait.names", laid_gambit_trait_names), ("unicode/utf8.first", laid_unicode_utf8_first)] }
def WholeBeginsSaid : Prop := wholeBeginsRow.holds Tryz.pinned (OpenSpec.ofChange wholeBeginsSpec)

/-- ITS FALSE NEIGHBOUR: 'it returns false'. Refute it at one input. -/
def wholeBeginsWrong : ChangeSpec := { name := "wholeBegins", fn := fun _ => fun
  | [d1, d2] => { results := [.lit (.bool false)], args := [d1, d2] }
  | _ => none }
def WholeBeginsWrongFalsely : Prop := wholeBeginsRow.holds Tryz.pinned (OpenSpec.ofChange wholeBeginsWrong)

/- THE SECOND FORM. 'bulk': how many values and letters a reading holds, each counted each time it is reached (what is shared counts as often as it is met; a slice's spare places count too). A statement '..UptoSaid' is the law's where the arguments, and the package variables that the reading takes, are together of bulk at most 1048576: NARROWER than '..Said'. Prove '..Said' where nothing that the law and all that it calls make is longer than what came in: it says more and counts as full. Else prove '..UptoSaid'. A law counts once. -/
mutual
def uptoBulk {H : Type} : DataW H → Nat
  | .lit (.string bytes) => bytes.length + 1
  | .lit _ => 1
  | .nil => 1
  | .ptr d => uptoBulk d + 1
  | .slice elems spare => uptoBulkAll elems + uptoBulkAll spare + 1
  | .agg parts => uptoBulkAll parts + 1
  | .iface _ d => uptoBulk d + 1
  | .map entries => uptoBulkEntries entries + 1
  | .held _ => 1
def uptoBulkAll {H : Type} : List (DataW H) → Nat
  | [] => 0
  | d :: r => uptoBulk d + uptoBulkAll r
def uptoBulkEntries {H : Type} : List (Lit × DataW H) → Nat
  | [] => 0
  | x :: r => uptoBulkEntry x + uptoBulkEntries r
def uptoBulkEntry {H : Type} : Lit × DataW H → Nat
  | (.string bytes, d) => bytes.length + uptoBulk d + 1
  | (_, d) => uptoBulk d + 1
 end
def uptoSmall : (H : Type) → List (DataW H) → Bool := fun _ ds => decide (uptoBulkAll ds ≤ 1048576)
def OpenSpec.upto (s : _root_.Go.ChangeSpec) : _root_.Go.OpenSpec := { _root_.Go.OpenSpec.ofChange s with cond := some uptoSmall }

/-- 'gambitlaw18.ThingTells', WHERE WHAT IT READS IS OF BULK AT MOST 1048576: true; the input reads as it did. -/
def thingTellsUptoRow : OpenClaim := { program := "ytecmlefiajhajaagreatdoor", sum := "be593698ce5045ff76592638fb598f7518eee1b8785d1b3293df1207ba266f57", func := "gambit/gambitlaw18.ThingTells", spec := "thingTells", inPlace := ["internal/bytealg.IndexByteString", "internal/bytealg.IndexString"], named := ["unicode/utf8.first", "unicode/utf8.acceptRanges", "internal/bytealg.MaxLen"], apart := false, laid := [("unicode/utf8.acceptRanges", laid_unicode_utf8_acceptRanges), ("unicode/utf8.first", laid_unicode_utf8_first)], narrowed := true }
def ThingTellsUptoSaid : Prop := thingTellsUptoRow.holds Tryz.pinned (OpenSpec.upto thingTellsSpec)

/-- 'gambitlaw07.BookScript', WHERE WHAT IT READS IS OF BULK AT MOST 1048576: true; the input reads as it did. -/
def bookScriptUptoRow : OpenClaim := { program := "ytecmlefiajhajaagreatdoor", sum := "be593698ce5045ff76592638fb598f7518eee1b8785d1b3293df1207ba266f57", func := "gambit/gambitlaw07.BookScript", spec := "bookScript", inPlace := ["internal/bytealg.IndexByteString", "internal/bytealg.IndexString"], unfollowed := true, recurses := true, named := ["unicode/utf8.first", "unicode/utf8.acceptRanges", "internal/bytealg.MaxLen"], apart := false, laid := [("unicode/utf8.acceptRanges", laid_unicode_utf8_acceptRanges), ("unicode/utf8.first", laid_unicode_utf8_first)], narrowed := true }
def BookScriptUptoSaid : Prop := bookScriptUptoRow.holds Tryz.pinned (OpenSpec.upto bookScriptSpec)

/-- 'gambitlaw14.WholeNames', WHERE WHAT IT READS IS OF BULK AT MOST 1048576: true; the input reads as it did. -/
def wholeNamesUptoRow : OpenClaim := { program := "ytecmlefiajhajaagreatdoor", sum := "be593698ce5045ff76592638fb598f7518eee1b8785d1b3293df1207ba266f57", func := "gambit/gambitlaw14.WholeNames", spec := "wholeNames", inPlace := ["internal/bytealg.IndexByteString", "internal/bytealg.IndexString"], unfollowed := true, recurses := true, named := ["gambit/trait.names", "unicode/utf8.first", "unicode/utf8.acceptRanges", "internal/bytealg.MaxLen"], apart := false, laid := [("unicode/utf8.acceptRanges", laid_unicode_utf8_acceptRanges), ("gambit/trait.names", laid_gambit_trait_names), ("unicode/utf8.first", laid_unicode_utf8_first)], narrowed := true }
def WholeNamesUptoSaid : Prop := wholeNamesUptoRow.holds Tryz.pinned (OpenSpec.upto wholeNamesSpec)

/-- 'gambitlaw14.WholeTells', WHERE WHAT IT READS IS OF BULK AT MOST 1048576: true; the input reads as it did. -/
def wholeTellsUptoRow : OpenClaim := { program := "ytecmlefiajhajaagreatdoor", sum := "be593698ce5045ff76592638fb598f7518eee1b8785d1b3293df1207ba266f57", func := "gambit/gambitlaw14.WholeTells", spec := "wholeTells", inPlace := ["internal/bytealg.IndexByteString", "internal/bytealg.IndexString"], unfollowed := true, recurses := true, named := ["gambit/trait.names", "unicode/utf8.first", "unicode/utf8.acceptRanges", "internal/bytealg.MaxLen"], apart := false, laid := [("unicode/utf8.acceptRanges", laid_unicode_utf8_acceptRanges), ("gambit/trait.names", laid_gambit_trait_names), ("unicode/utf8.first", laid_unicode_utf8_first)], narrowed := true }
def WholeTellsUptoSaid : Prop := wholeTellsUptoRow.holds Tryz.pinned (OpenSpec.upto wholeTellsSpec)

/-- 'gambitlaw14.WholeAgain', WHERE WHAT IT READS IS OF BULK AT MOST 1048576: true; the input reads as it did. -/
def wholeAgainUptoRow : OpenClaim := { program := "ytecmlefiajhajaagreatdoor", sum := "be593698ce5045ff76592638fb598f7518eee1b8785d1b3293df1207ba266f57", func := "gambit/gambitlaw14.WholeAgain", spec := "wholeAgain", inPlace := ["internal/bytealg.IndexByteString", "internal/bytealg.IndexString"], unfollowed := true, recurses := true, named := ["gambit/trait.names", "unicode/utf8.first", "unicode/utf8.acceptRanges", "internal/bytealg.MaxLen"], apart := false, laid := [("unicode/utf8.acceptRanges", laid_unicode_utf8_acceptRanges), ("gambit/trait.names", laid_gambit_trait_names), ("unicode/utf8.first", laid_unicode_utf8_first)], narrowed := true }
def WholeAgainUptoSaid : Prop := wholeAgainUptoRow.holds Tryz.pinned (OpenSpec.upto wholeAgainSpec)

/-- 'gambitlaw14.WholeStands', WHERE WHAT IT READS IS OF BULK AT MOST 1048576: true; the input reads as it did. -/
def wholeStandsUptoRow : OpenClaim := { program := "ytecmlefiajhajaagreatdoor", sum := "be593698ce5045ff76592638fb598f7518eee1b8785d1b3293df1207ba266f57", func := "gambit/gambitlaw14.WholeStands", spec := "wholeStands", inPlace := ["internal/bytealg.IndexByteString", "internal/bytealg.IndexString"], unfollowed := true, recurses := true, named := ["gambit/trait.names", "unicode/utf8.first", "unicode/utf8.acceptRanges", "internal/bytealg.MaxLen"], apart := false, laid := [("unicode/utf8.acceptRanges", laid_unicode_utf8_acceptRanges), ("gambit/trait.names", laid_gambit_trait_names), ("unicode/utf8.first", laid_unicode_utf8_first)], narrowed := true }
def WholeStandsUptoSaid : Prop := wholeStandsUptoRow.holds Tryz.pinned (OpenSpec.upto wholeStandsSpec)

/-- 'gambitlaw14.WholeBegins', WHERE WHAT IT READS IS OF BULK AT MOST 1048576: true; the input reads as it did. -/
def wholeBeginsUptoRow : OpenClaim := { program := "ytecmlefiajhajaagreatdoor", sum := "be593698ce5045ff76592638fb598f7518eee1b8785d1b3293df1207ba266f57", func := "gambit/gambitlaw14.WholeBegins", spec := "wholeBegins", inPlace := ["internal/bytealg.IndexByteString", "internal/bytealg.IndexString"], unfollowed := true, recurses := true, named := ["gambit/trait.names", "unicode/utf8.first", "unicode/utf8.acceptRanges", "internal/bytealg.MaxLen"], apart := false, laid := [("unicode/utf8.acceptRanges", laid_unicode_utf8_acceptRanges), ("gambit/trait.names", laid_gambit_trait_names), ("unicode/utf8.first", laid_unicode_utf8_first)], narrowed := true }
def WholeBeginsUptoSaid : Prop := wholeBeginsUptoRow.holds Tryz.pinned (OpenSpec.upto wholeBeginsSpec)

end Rows
end Go.Proofs.YtecmlefiajhajaaGreatDoor
