/-
  NARROWER THAN 'FOR EVERY INPUT', by the rows' own cells (each row's printed sentence says how): BookKnown: laid · ThingNames: laid · TraitTexts: laid · TraitBack: laid.
  DERIVED. THE GIVEN ROWS OF THIS SEAT. 4 by the template 'for every input the law returns true; each argument reads behind the call as it read before'; 0 by the template 'total and deterministic' (their statements: YtaonlobknikbmaaDoorTotals.lean).
  GIVEN WITH THE SEED: the statements are not yours to turn. If you find one false, say at which input.
  Laid BY PROGRAM, IN A SANDBOX (cutbox-rows.mjs): the forced cells as the released guide's own fill.sh prints them over the translation a4205da3aef80a5f… (all of the seat's roots in one cut). By AI agents, Wed Nov 11 2026. No macro, syntax, notation, axiom, sorry.
-/
import Derived.Test.YtaonlobknikbmaaDoorChecked
import GoSem.PinnedTables
import GoSem.Claim
import GoSem.ClaimJoined
import GoSem.ClaimMapViews
import Derived.JoinedTies
import Derived.KernelRfl
namespace Go.Proofs.YtaonlobknikbmaaDoor
/- THE CELL 'sum', in the pinned program and in every row, IS THE sha256 OF THE DUMP (.gsa) THAT YtaonlobknikbmaaDoorProg.lean LOADS. Nothing in Lean hashes anything: it is a label: what it is worth is what the hold of that sum in a sandbox is worth. -/
noncomputable def Tryd.pinned : Pinned := { name := "ytaonlobknikbmaadoor", sum := "a4205da3aef80a5f6ff22a4600c3e4563c290becd5f3a1f0446dd7dc69ff66b9", checked := Tryd.checked }
namespace Rows
def none {H : Type} : Left H := { results := [], args := [] }

/- WHAT THE LISTED PACKAGE-LEVEL VARIABLES READ AS WHEN THE CALL BEGINS. Each datum BY PROGRAM (the guide's laid-datum.mjs) off the statement by which the dump's own 'gosem.cut.vars' lays the variable. In a bare row this is a premise. The card (YtaonlobknikbmaaDoorCards.lean) ties it to the program's text. -/
def laid_unicode_utf8_acceptRanges {H : Type} : DataW H := .agg [.agg [.lit (.int .u8 128), .lit (.int .u8 191)], .agg [.lit (.int .u8 160), .lit (.int .u8 191)], .agg [.lit (.int .u8 128), .lit (.int .u8 159)], .agg [.lit (.int .u8 144), .lit (.int .u8 191)], .agg [.lit (.int .u8 128), .lit (.int .u8 143)], .agg [.lit (.int .u8 0), .lit (.int .u8 0)], .agg [.lit (.int .u8 0), .lit (.int .u8 0)], .agg [.lit (.int .u8 0), .lit (.int .u8 0)], .agg [.lit (.int .u8 0), .lit (.int .u8 0)], .agg [.lit (.int .u8 0), .lit (.int .u8 0)], .agg [.lit (.int .u8 0), .lit (.int .u8 0)], .agg [.lit (.int .u8 0), .lit (.int .u8 0)], .agg [.lit (.int .u8 0), .lit (.int .u8 0)], .agg [.lit (.int .u8 0), .lit (.int .u8 0)], .agg [.lit (.int .u8 0), .lit (.int .u8 0)], .agg [.lit (.int .u8 0), .lit (.int .u8 0)]]
/-- One of Go's own tables, pinned by name: the form's constant. -/
def laid_unicode_utf8_first : DataW Unit := Go.Pinned.utf8First
def laid_gambit_trait_names {H : Type} : DataW H := .agg [.lit (.string []), .lit (.string [102, 97, 115, 116]), .lit (.string [103, 117, 97, 114, 100]), .lit (.string [118, 101, 110, 111, 109]), .lit (.string [108, 111, 110, 101]), .lit (.string [100, 114, 97, 105, 110]), .lit (.string [109, 117, 116, 101]), .lit (.string [102, 105, 120, 101, 100]), .lit (.string [115, 119, 105, 102, 116])]

/-- 'gambitlaw07.BookKnown': WHATEVER THE INPUT: true; the input reads as it did. -/
def bookKnownSpec : ChangeSpec := { name := "bookKnown", fn := fun _ => fun
  | [] => { results := [.lit (.bool true)], args := [] }
  | _ => none }
def bookKnownRow : OpenClaim := { program := "ytaonlobknikbmaadoor", sum := "a4205da3aef80a5f6ff22a4600c3e4563c290becd5f3a1f0446dd7dc69ff66b9", func := "gambit/gambitlaw07.BookKnown", spec := "bookKnown", inPlace := ["internal/bytealg.IndexByteString", "internal/bytealg.IndexString"], named := ["unicode/utf8.first", "unicode/utf8.acceptRanges", "internal/bytealg.MaxLen"], apart := false, laid := [("unicode/utf8.acceptRanges", laid_unicode_utf8_acceptRanges), ("unicode/utf8.first", laid_unicode_utf8_first)] }
def BookKnownSaid : Prop := bookKnownRow.holds Tryd.pinned (OpenSpec.ofChange bookKnownSpec)

/-- ITS FALSE NEIGHBOUR: 'it returns false'. Refute it at one input. -/
def bookKnownWrong : ChangeSpec := { name := "bookKnown", fn := fun _ => fun
  | [] => { results := [.lit (.bool false)], args := [] }
  | _ => none }
def BookKnownWrongFalsely : Prop := bookKnownRow.holds Tryd.pinned (OpenSpec.ofChange bookKnownWrong)

/-- 'gambitlaw18.ThingNames': WHATEVER THE INPUT: true; the input reads as it did. -/
def thingNamesSpec : ChangeSpec := { name := "thingNames", fn := fun _ => fun
  | [] => { results := [.lit (.bool true)], args := [] }
  | _ => none }
def thingNamesRow : OpenClaim := { program := "ytaonlobknikbmaadoor", sum := "a4205da3aef80a5f6ff22a4600c3e4563c290becd5f3a1f0446dd7dc69ff66b9", func := "gambit/gambitlaw18.ThingNames", spec := "thingNames", inPlace := ["internal/bytealg.IndexByteString", "internal/bytealg.IndexString"], named := ["unicode/utf8.first", "unicode/utf8.acceptRanges", "internal/bytealg.MaxLen"], apart := false, laid := [("unicode/utf8.acceptRanges", laid_unicode_utf8_acceptRanges), ("unicode/utf8.first", laid_unicode_utf8_first)] }
def ThingNamesSaid : Prop := thingNamesRow.holds Tryd.pinned (OpenSpec.ofChange thingNamesSpec)

/-- ITS FALSE NEIGHBOUR: 'it returns false'. Refute it at one input. -/
def thingNamesWrong : ChangeSpec := { name := "thingNames", fn := fun _ => fun
  | [] => { results := [.lit (.bool false)], args := [] }
  | _ => none }
def ThingNamesWrongFalsely : Prop := thingNamesRow.holds Tryd.pinned (OpenSpec.ofChange thingNamesWrong)

/-- 'gambitlaw04.TraitTexts': WHATEVER THE INPUT: true; the input reads as it did. -/
def traitTextsSpec : ChangeSpec := { name := "traitTexts", fn := fun _ => fun
  | [d] => { results := [.lit (.bool true)], args := [d] }
  | _ => none }
def traitTextsRow : OpenClaim := { program := "ytaonlobknikbmaadoor", sum := "a4205da3aef80a5f6ff22a4600c3e4563c290becd5f3a1f0446dd7dc69ff66b9", func := "gambit/gambitlaw04.TraitTexts", spec := "traitTexts", inPlace := ["internal/bytealg.CountString", "internal/bytealg.IndexByteString", "internal/bytealg.IndexString"], named := ["gambit/trait.names", "unicode/utf8.first", "unicode/utf8.acceptRanges", "internal/bytealg.MaxLen"], apart := false, laid := [("unicode/utf8.acceptRanges", laid_unicode_utf8_acceptRanges), ("gambit/trait.names", laid_gambit_trait_names), ("unicode/utf8.first", laid_unicode_utf8_first)] }
def TraitTextsSaid : Prop := traitTextsRow.holds Tryd.pinned (OpenSpec.ofChange traitTextsSpec)

/-- ITS FALSE NEIGHBOUR: 'it returns false'. Refute it at one input. -/
def traitTextsWrong : ChangeSpec := { name := "traitTexts", fn := fun _ => fun
  | [d] => { results := [.lit (.bool false)], args := [d] }
  | _ => none }
def TraitTextsWrongFalsely : Prop := traitTextsRow.holds Tryd.pinned (OpenSpec.ofChange traitTextsWrong)

/-- 'gambitlaw04.TraitBack': WHATEVER THE INPUT: true; the input reads as it did. -/
def traitBackSpec : ChangeSpec := { name := "traitBack", fn := fun _ => fun
  | [d1, d2] => { results := [.lit (.bool true)], args := [d1, d2] }
  | _ => none }
def traitBackRow : OpenClaim := { program := "ytaonlobknikbmaadoor", sum := "a4205da3aef80a5f6ff22a4600c3e4563c290becd5f3a1f0446dd7dc69ff66b9", func := "gambit/gambitlaw04.TraitBack", spec := "traitBack", inPlace := ["internal/bytealg.CountString", "internal/bytealg.IndexByteString", "internal/bytealg.IndexString", "internal/abi.NoEscape", "internal/bytealg.MakeNoZero"], named := ["gambit/trait.names", "unicode/utf8.first", "unicode/utf8.acceptRanges", "internal/bytealg.MaxLen"], apart := false, laid := [("unicode/utf8.acceptRanges", laid_unicode_utf8_acceptRanges), ("gambit/trait.names", laid_gambit_trait_names), ("unicode/utf8.first", laid_unicode_utf8_first)] }
def TraitBackSaid : Prop := traitBackRow.holds Tryd.pinned (OpenSpec.ofChange traitBackSpec)

/-- ITS FALSE NEIGHBOUR: 'it returns false'. Refute it at one input. -/
def traitBackWrong : ChangeSpec := { name := "traitBack", fn := fun _ => fun
  | [d1, d2] => { results := [.lit (.bool false)], args := [d1, d2] }
  | _ => none }
def TraitBackWrongFalsely : Prop := traitBackRow.holds Tryd.pinned (OpenSpec.ofChange traitBackWrong)

/- THE SECOND FORM. 'bulk': how many values and letters a reading holds, each counted each time it is reached (what is shared counts as often as it is met; a slice's spare places count too). A statement '..UptoSaid' is the law's where the arguments, and the package variables that the reading takes, are together of bulk at most 1048576: NARROWER than '..Said'. Prove '..Said' where nothing that the law and all that it calls make is longer than what came in: it says more and counts as full. Else prove '..UptoSaid'. A law counts once. -/
mutual
def uptoBulk {H : Type} : DataW H → Nat
  | .lit (.string bytes) => bytes.length + 1
  | .lit _ => 1
  | .nil => 1
  | .ptr d => uptoBulk d + 1
  | .slice elems spare => uptoBulkAll elems + uptoBulkAll spare + 1
  | .agg parts => uptoBulkAll parts + 1
  | .iface _ d => uptoBulk d + 1
  | .map entries => uptoBulkEntries entries + 1
  | .held _ => 1
def uptoBulkAll {H : Type} : List (DataW H) → Nat
  | [] => 0
  | d :: r => uptoBulk d + uptoBulkAll r
def uptoBulkEntries {H : Type} : List (Lit × DataW H) → Nat
  | [] => 0
  | x :: r => uptoBulkEntry x + uptoBulkEntries r
def uptoBulkEntry {H : Type} : Lit × DataW H → Nat
  | (.string bytes, d) => bytes.length + uptoBulk d + 1
  | (_, d) => uptoBulk d + 1
 end
def uptoSmall : (H : Type) → List (DataW H) → Bool := fun _ ds => decide (uptoBulkAll ds ≤ 1048576)
def OpenSpec.upto (s : _root_.Go.ChangeSpec) : _root_.Go.OpenSpec := { _root_.Go.OpenSpec.ofChange s with cond := some uptoSmall }

/-- 'gambitlaw07.BookKnown', WHERE WHAT IT READS IS OF BULK AT MOST 1048576: true; the input reads as it did. -/
def bookKnownUptoRow : OpenClaim := { program := "ytaonlobknikbmaadoor", sum := "a4205da3aef80a5f6ff22a4600c3e4563c290becd5f3a1f0446dd7dc69ff66b9", func := "gambit/gambitlaw07.BookKnown", spec := "bookKnown", inPlace := ["internal/bytealg.IndexByteString", "internal/bytealg.IndexString"], named := ["unicode/utf8.first", "unicode/utf8.acceptRanges", "internal/bytealg.MaxLen"], apart := false, laid := [("unicode/utf8.acceptRanges", laid_unicode_utf8_acceptRanges), ("unicode/utf8.first", laid_unicode_utf8_first)], narrowed := true }
def BookKnownUptoSaid : Prop := bookKnownUptoRow.holds Tryd.pinned (OpenSpec.upto bookKnownSpec)

/-- 'gambitlaw18.ThingNames', WHERE WHAT IT READS IS OF BULK AT MOST 1048576: true; the input reads as it did. -/
def thingNamesUptoRow : OpenClaim := { program := "ytaonlobknikbmaadoor", sum := "a4205da3aef80a5f6ff22a4600c3e4563c290becd5f3a1f0446dd7dc69ff66b9", func := "gambit/gambitlaw18.ThingNames", spec := "thingNames", inPlace := ["internal/bytealg.IndexByteString", "internal/bytealg.IndexString"], named := ["unicode/utf8.first", "unicode/utf8.acceptRanges", "internal/bytealg.MaxLen"], apart := false, laid := [("unicode/utf8.acceptRanges", laid_unicode_utf8_acceptRanges), ("unicode/utf8.first", laid_unicode_utf8_first)], narrowed := true }
def ThingNamesUptoSaid : Prop := thingNamesUptoRow.holds Tryd.pinned (OpenSpec.upto thingNamesSpec)

/-- 'gambitlaw04.TraitTexts', WHERE WHAT IT READS IS OF BULK AT MOST 1048576: true; the input reads as it did. -/
def traitTextsUptoRow : OpenClaim := { program := "ytaonlobknikbmaadoor", sum := "a4205da3aef80a5f6ff22a4600c3e4563c290becd5f3a1f0446dd7dc69ff66b9", func := "gambit/gambitlaw04.TraitTexts", spec := "traitTexts", inPlace := ["internal/bytealg.CountString", "internal/bytealg.IndexByteString", "internal/bytealg.IndexString"], named := ["gambit/trait.names", "unicode/utf8.first", "unicode/utf8.acceptRanges", "internal/bytealg.MaxLen"], apart := false, laid := [("unicode/utf8.acceptRanges", laid_unicode_utf8_acceptRanges), ("gambit/trait.names", laid_gambit_trait_names), ("unicode/utf8.first", laid_unicode_utf8_first)], narrowed := true }
def TraitTextsUptoSaid : Prop := traitTextsUptoRow.holds Tryd.pinned (OpenSpec.upto traitTextsSpec)

/-- 'gambitlaw04.TraitBack', WHERE WHAT IT READS IS OF BULK AT MOST 1048576: true; the input reads as it did. -/
def traitBackUptoRow : OpenClaim := { program := "ytaonlobknikbmaadoor", sum := "a4205da3aef80a5f6ff22a4600c3e4563c290becd5f3a1f0446dd7dc69ff66b9", func := "gambit/gambitlaw04.TraitBack", spec := "traitBack", inPlace := ["internal/bytealg.CountString", "internal/bytealg.IndexByteString", "internal/bytealg.IndexString", "internal/abi.NoEscape", "internal/bytealg.MakeNoZero"], named := ["gambit/trait.names", "unicode/utf8.first", "unicode/utf8.acceptRanges", "internal/bytealg.MaxLen"], apart := false, laid := [("unicode/utf8.acceptRanges", laid_unicode_utf8_acceptRanges), ("gambit/trait.names", laid_gambit_trait_names), ("unicode/utf8.first", laid_unicode_utf8_first)], narrowed := true }
def TraitBackUptoSaid : Prop := traitBackUptoRow.holds Tryd.pinned (OpenSpec.upto traitBackSpec)

end Rows
end Go.Proofs.YtaonlobknikbmaaDoor
