/-
  NARROWER THAN 'FOR EVERY INPUT', by the rows' own cells (each row's printed sentence says how): SuitNames: laid · SuitAll: laid · SuitRound: laid · SuitTells: laid · TraitNames: laid · TraitKnown: laid · TraitSets: laid · TraitBits: laid.
  DERIVED. THE GIVEN ROWS OF THIS SEAT. 8 by the template 'for every input the law returns true; each argument reads behind the call as it read before'; 0 by the template 'total and deterministic' (their statements: YtfafaeghnkmpcaaDoorTotals.lean).
  GIVEN WITH THE SEED: the statements are not yours to turn. If you find one false, say at which input.
  Laid BY PROGRAM, IN A SANDBOX (cutbox-rows.mjs): the forced cells as the released guide's own fill.sh prints them over the translation 58d5aa3c98cfd9fb… (all of the seat's roots in one cut). By AI agents, Wed Nov 11 2026. No macro, syntax, notation, axiom, sorry.
-/
import Derived.Test.YtfafaeghnkmpcaaDoorChecked
import GoSem.PinnedTables
import GoSem.Claim
import GoSem.ClaimJoined
import GoSem.ClaimMapViews
import Derived.JoinedTies
import Derived.KernelRfl
namespace Go.Proofs.YtfafaeghnkmpcaaDoor
/- THE CELL 'sum', in the pinned program and in every row, IS THE sha256 OF THE DUMP (.gsa) THAT YtfafaeghnkmpcaaDoorProg.lean LOADS. Nothing in Lean hashes anything: it is a label: what it is worth is what the hold of that sum in a sandbox is worth. -/
noncomputable def Tryd.pinned : Pinned := { name := "ytfafaeghnkmpcaadoor", sum := "58d5aa3c98cfd9fb02d94cb6981ca07a0841c3df25ce8e9c0b0668eb599771ea", checked := Tryd.checked }
namespace Rows
def none {H : Type} : Left H := { results := [], args := [] }

/- WHAT THE LISTED PACKAGE-LEVEL VARIABLES READ AS WHEN THE CALL BEGINS. Each datum BY PROGRAM (the guide's laid-datum.mjs) off the statement by which the dump's own 'gosem.cut.vars' lays the variable. In a bare row this is a premise. The card (YtfafaeghnkmpcaaDoorCards.lean) ties it to the program's text. -/
def laid_gambit_suit_beats {H : Type} : DataW H := .agg [.lit (.int .u8 0), .lit (.int .u8 2), .lit (.int .u8 4), .lit (.int .u8 5), .lit (.int .u8 3), .lit (.int .u8 6), .lit (.int .u8 1)]
def laid_unicode_utf8_acceptRanges {H : Type} : DataW H := .agg [.agg [.lit (.int .u8 128), .lit (.int .u8 191)], .agg [.lit (.int .u8 160), .lit (.int .u8 191)], .agg [.lit (.int .u8 128), .lit (.int .u8 159)], .agg [.lit (.int .u8 144), .lit (.int .u8 191)], .agg [.lit (.int .u8 128), .lit (.int .u8 143)], .agg [.lit (.int .u8 0), .lit (.int .u8 0)], .agg [.lit (.int .u8 0), .lit (.int .u8 0)], .agg [.lit (.int .u8 0), .lit (.int .u8 0)], .agg [.lit (.int .u8 0), .lit (.int .u8 0)], .agg [.lit (.int .u8 0), .lit (.int .u8 0)], .agg [.lit (.int .u8 0), .lit (.int .u8 0)], .agg [.lit (.int .u8 0), .lit (.int .u8 0)], .agg [.lit (.int .u8 0), .lit (.int .u8 0)], .agg [.lit (.int .u8 0), .lit (.int .u8 0)], .agg [.lit (.int .u8 0), .lit (.int .u8 0)], .agg [.lit (.int .u8 0), .lit (.int .u8 0)]]
def laid_gambit_trait_names {H : Type} : DataW H := .agg [.lit (.string []), .lit (.string [102, 97, 115, 116]), .lit (.string [103, 117, 97, 114, 100]), .lit (.string [118, 101, 110, 111, 109]), .lit (.string [108, 111, 110, 101]), .lit (.string [100, 114, 97, 105, 110]), .lit (.string [109, 117, 116, 101]), .lit (.string [102, 105, 120, 101, 100]), .lit (.string [115, 119, 105, 102, 116])]
/-- One of Go's own tables, pinned by name: the form's constant. -/
def laid_unicode_utf8_first : DataW Unit := Go.Pinned.utf8First

/-- 'gambitlaw03.SuitNames': WHATEVER THE INPUT: true; the input reads as it did. -/
def suitNamesSpec : ChangeSpec := { name := "suitNames", fn := fun _ => fun
  | [] => { results := [.lit (.bool true)], args := [] }
  | _ => none }
def suitNamesRow : OpenClaim := { program := "ytfafaeghnkmpcaadoor", sum := "58d5aa3c98cfd9fb02d94cb6981ca07a0841c3df25ce8e9c0b0668eb599771ea", func := "gambit/gambitlaw03.SuitNames", spec := "suitNames", unfollowed := true, recurses := true, named := ["gambit/suit.beats"], apart := false, laid := [("gambit/suit.beats", laid_gambit_suit_beats)] }
def SuitNamesSaid : Prop := suitNamesRow.holds Tryd.pinned (OpenSpec.ofChange suitNamesSpec)

/-- ITS FALSE NEIGHBOUR: 'it returns false'. Refute it at one input. -/
def suitNamesWrong : ChangeSpec := { name := "suitNames", fn := fun _ => fun
  | [] => { results := [.lit (.bool false)], args := [] }
  | _ => none }
def SuitNamesWrongFalsely : Prop := suitNamesRow.holds Tryd.pinned (OpenSpec.ofChange suitNamesWrong)

/-- 'gambitlaw03.SuitAll': WHATEVER THE INPUT: true; the input reads as it did. -/
def suitAllSpec : ChangeSpec := { name := "suitAll", fn := fun _ => fun
  | [d] => { results := [.lit (.bool true)], args := [d] }
  | _ => none }
def suitAllRow : OpenClaim := { program := "ytfafaeghnkmpcaadoor", sum := "58d5aa3c98cfd9fb02d94cb6981ca07a0841c3df25ce8e9c0b0668eb599771ea", func := "gambit/gambitlaw03.SuitAll", spec := "suitAll", unfollowed := true, recurses := true, named := ["gambit/suit.beats"], apart := false, laid := [("gambit/suit.beats", laid_gambit_suit_beats)] }
def SuitAllSaid : Prop := suitAllRow.holds Tryd.pinned (OpenSpec.ofChange suitAllSpec)

/-- ITS FALSE NEIGHBOUR: 'it returns false'. Refute it at one input. -/
def suitAllWrong : ChangeSpec := { name := "suitAll", fn := fun _ => fun
  | [d] => { results := [.lit (.bool false)], args := [d] }
  | _ => none }
def SuitAllWrongFalsely : Prop := suitAllRow.holds Tryd.pinned (OpenSpec.ofChange suitAllWrong)

/-- 'gambitlaw03.SuitRound': WHATEVER THE INPUT: true; the input reads as it did. -/
def suitRoundSpec : ChangeSpec := { name := "suitRound", fn := fun _ => fun
  | [d1, d2] => { results := [.lit (.bool true)], args := [d1, d2] }
  | _ => none }
def suitRoundRow : OpenClaim := { program := "ytfafaeghnkmpcaadoor", sum := "58d5aa3c98cfd9fb02d94cb6981ca07a0841c3df25ce8e9c0b0668eb599771ea", func := "gambit/gambitlaw03.SuitRound", spec := "suitRound", unfollowed := true, recurses := true, named := ["gambit/suit.beats"], apart := false, laid := [("gambit/suit.beats", laid_gambit_suit_beats)] }
def SuitRoundSaid : Prop := suitRoundRow.holds Tryd.pinned (OpenSpec.ofChange suitRoundSpec)

/-- ITS FALSE NEIGHBOUR: 'it returns false'. Refute it at one input. -/
def suitRoundWrong : ChangeSpec := { name := "suitRound", fn := fun _ => fun
  | [d1, d2] => { results := [.lit (.bool false)], args := [d1, d2] }
  | _ => none }
def SuitRoundWrongFalsely : Prop := suitRoundRow.holds Tryd.pinned (OpenSpec.ofChange suitRoundWrong)

/-- 'gambitlaw03.SuitTells': WHATEVER THE INPUT: true; the input reads as it did. -/
def suitTellsSpec : ChangeSpec := { name := "suitTells", fn := fun _ => fun
  | [d1, d2] => { results := [.lit (.bool true)], args := [d1, d2] }
  | _ => none }
def suitTellsRow : OpenClaim := { program := "ytfafaeghnkmpcaadoor", sum := "58d5aa3c98cfd9fb02d94cb6981ca07a0841c3df25ce8e9c0b0668eb599771ea", func := "gambit/gambitlaw03.SuitTells", spec := "suitTells", unfollowed := true, recurses := true, named := ["gambit/suit.beats"], apart := false, laid := [("gambit/suit.beats", laid_gambit_suit_beats)] }
def SuitTellsSaid : Prop := suitTellsRow.holds Tryd.pinned (OpenSpec.ofChange suitTellsSpec)

/-- ITS FALSE NEIGHBOUR: 'it returns false'. Refute it at one input. -/
def suitTellsWrong : ChangeSpec := { name := "suitTells", fn := fun _ => fun
  | [d1, d2] => { results := [.lit (.bool false)], args := [d1, d2] }
  | _ => none }
def SuitTellsWrongFalsely : Prop := suitTellsRow.holds Tryd.pinned (OpenSpec.ofChange suitTellsWrong)

/-- 'gambitlaw04.TraitNames': WHATEVER THE INPUT: true; the input reads as it did. -/
def traitNamesSpec : ChangeSpec := { name := "traitNames", fn := fun _ => fun
  | [] => { results := [.lit (.bool true)], args := [] }
  | _ => none }
def traitNamesRow : OpenClaim := { program := "ytfafaeghnkmpcaadoor", sum := "58d5aa3c98cfd9fb02d94cb6981ca07a0841c3df25ce8e9c0b0668eb599771ea", func := "gambit/gambitlaw04.TraitNames", spec := "traitNames", inPlace := ["internal/bytealg.CountString", "internal/bytealg.IndexByteString", "internal/bytealg.IndexString"], named := ["gambit/trait.names", "unicode/utf8.first", "unicode/utf8.acceptRanges", "internal/bytealg.MaxLen"], apart := false, laid := [("unicode/utf8.acceptRanges", laid_unicode_utf8_acceptRanges), ("gambit/trait.names", laid_gambit_trait_names), ("unicode/utf8.first", laid_unicode_utf8_first)] }
def TraitNamesSaid : Prop := traitNamesRow.holds Tryd.pinned (OpenSpec.ofChange traitNamesSpec)

/-- ITS FALSE NEIGHBOUR: 'it returns false'. Refute it at one input. -/
def traitNamesWrong : ChangeSpec := { name := "traitNames", fn := fun _ => fun
  | [] => { results := [.lit (.bool false)], args := [] }
  | _ => none }
def TraitNamesWrongFalsely : Prop := traitNamesRow.holds Tryd.pinned (OpenSpec.ofChange traitNamesWrong)

/-- 'gambitlaw04.TraitKnown': WHATEVER THE INPUT: true; the input reads as it did. -/
def traitKnownSpec : ChangeSpec := { name := "traitKnown", fn := fun _ => fun
  | [] => { results := [.lit (.bool true)], args := [] }
  | _ => none }
def traitKnownRow : OpenClaim := { program := "ytfafaeghnkmpcaadoor", sum := "58d5aa3c98cfd9fb02d94cb6981ca07a0841c3df25ce8e9c0b0668eb599771ea", func := "gambit/gambitlaw04.TraitKnown", spec := "traitKnown", inPlace := ["internal/abi.NoEscape", "internal/bytealg.MakeNoZero", "internal/bytealg.CountString", "internal/bytealg.IndexByteString", "internal/bytealg.IndexString"], named := ["gambit/trait.names", "unicode/utf8.first", "unicode/utf8.acceptRanges", "internal/bytealg.MaxLen"], apart := false, laid := [("unicode/utf8.acceptRanges", laid_unicode_utf8_acceptRanges), ("gambit/trait.names", laid_gambit_trait_names), ("unicode/utf8.first", laid_unicode_utf8_first)] }
def TraitKnownSaid : Prop := traitKnownRow.holds Tryd.pinned (OpenSpec.ofChange traitKnownSpec)

/-- ITS FALSE NEIGHBOUR: 'it returns false'. Refute it at one input. -/
def traitKnownWrong : ChangeSpec := { name := "traitKnown", fn := fun _ => fun
  | [] => { results := [.lit (.bool false)], args := [] }
  | _ => none }
def TraitKnownWrongFalsely : Prop := traitKnownRow.holds Tryd.pinned (OpenSpec.ofChange traitKnownWrong)

/-- 'gambitlaw04.TraitSets': WHATEVER THE INPUT: true; the input reads as it did. -/
def traitSetsSpec : ChangeSpec := { name := "traitSets", fn := fun _ => fun
  | [d1, d2] => { results := [.lit (.bool true)], args := [d1, d2] }
  | _ => none }
def traitSetsRow : OpenClaim := { program := "ytfafaeghnkmpcaadoor", sum := "58d5aa3c98cfd9fb02d94cb6981ca07a0841c3df25ce8e9c0b0668eb599771ea", func := "gambit/gambitlaw04.TraitSets", spec := "traitSets", inPlace := ["internal/abi.NoEscape", "internal/bytealg.MakeNoZero"], named := ["gambit/trait.names"], apart := false, laid := [("gambit/trait.names", laid_gambit_trait_names)] }
def TraitSetsSaid : Prop := traitSetsRow.holds Tryd.pinned (OpenSpec.ofChange traitSetsSpec)

/-- ITS FALSE NEIGHBOUR: 'it returns false'. Refute it at one input. -/
def traitSetsWrong : ChangeSpec := { name := "traitSets", fn := fun _ => fun
  | [d1, d2] => { results := [.lit (.bool false)], args := [d1, d2] }
  | _ => none }
def TraitSetsWrongFalsely : Prop := traitSetsRow.holds Tryd.pinned (OpenSpec.ofChange traitSetsWrong)

/-- 'gambitlaw04.TraitBits': WHATEVER THE INPUT: true; the input reads as it did. -/
def traitBitsSpec : ChangeSpec := { name := "traitBits", fn := fun _ => fun
  | [d1, d2, d3, d4] => { results := [.lit (.bool true)], args := [d1, d2, d3, d4] }
  | _ => none }
def traitBitsRow : OpenClaim := { program := "ytfafaeghnkmpcaadoor", sum := "58d5aa3c98cfd9fb02d94cb6981ca07a0841c3df25ce8e9c0b0668eb599771ea", func := "gambit/gambitlaw04.TraitBits", spec := "traitBits", inPlace := ["internal/bytealg.CountString", "internal/bytealg.IndexByteString", "internal/bytealg.IndexString"], named := ["gambit/trait.names", "unicode/utf8.first", "unicode/utf8.acceptRanges", "internal/bytealg.MaxLen"], apart := false, laid := [("unicode/utf8.acceptRanges", laid_unicode_utf8_acceptRanges), ("gambit/trait.names", laid_gambit_trait_names), ("unicode/utf8.first", laid_unicode_utf8_first)] }
def TraitBitsSaid : Prop := traitBitsRow.holds Tryd.pinned (OpenSpec.ofChange traitBitsSpec)

/-- ITS FALSE NEIGHBOUR: 'it returns false'. Refute it at one input. -/
def traitBitsWrong : ChangeSpec := { name := "traitBits", fn := fun _ => fun
  | [d1, d2, d3, d4] => { results := [.lit (.bool false)], args := [d1, d2, d3, d4] }
  | _ => none }
def TraitBitsWrongFalsely : Prop := traitBitsRow.holds Tryd.pinned (OpenSpec.ofChange traitBitsWrong)

/- THE SECOND FORM. 'bulk': how many values and letters a reading holds, each counted each time it is reached (what is shared counts as often as it is met; a slice's spare places count too). A statement '..UptoSaid' is the law's where the arguments, and the package variables that the reading takes, are together of bulk at most 1048576: NARROWER than '..Said'. Prove '..Said' where nothing that the law and all that it calls make is longer than what came in: it says more and counts as full. Else prove '..UptoSaid'. A law counts once. -/
mutual
def uptoBulk {H : Type} : DataW H → Nat
  | .lit (.string bytes) => bytes.length + 1
  | .lit _ => 1
  | .nil => 1
  | .ptr d => uptoBulk d + 1
  | .slice elems spare => uptoBulkAll elems + uptoBulkAll spare + 1
  | .agg parts => uptoBulkAll parts + 1
  | .iface _ d => uptoBulk d + 1
  | .map entries => uptoBulkEntries entries + 1
  | .held _ => 1
def uptoBulkAll {H : Type} : List (DataW H) → Nat
  | [] => 0
  | d :: r => uptoBulk d + uptoBulkAll r
def uptoBulkEntries {H : Type} : List (Lit × DataW H) → Nat
  | [] => 0
  | x :: r => uptoBulkEntry x + uptoBulkEntries r
def uptoBulkEntry {H : Type} : Lit × DataW H → Nat
  | (.string bytes, d) => bytes.length + uptoBulk d + 1
  | (_, d) => uptoBulk d + 1
 end
def uptoSmall : (H : Type) → List (DataW H) → Bool := fun _ ds => decide (uptoBulkAll ds ≤ 1048576)
def OpenSpec.upto (s : _root_.Go.ChangeSpec) : _root_.Go.OpenSpec := { _root_.Go.OpenSpec.ofChange s with cond := some uptoSmall }

/-- 'gambitlaw03.SuitNames', WHERE WHAT IT READS IS OF BULK AT MOST 1048576: true; the input reads as it did. -/
def suitNamesUptoRow : OpenClaim := { program := "ytfafaeghnkmpcaadoor", sum := "58d5aa3c98cfd9fb02d94cb6981ca07a0841c3df25ce8e9c0b0668eb599771ea", func := "gambit/gambitlaw03.SuitNames", spec := "suitNames", unfollowed := true, recurses := true, named := ["gambit/suit.beats"], apart := false, laid := [("gambit/suit.beats", laid_gambit_suit_beats)], narrowed := true }
def SuitNamesUptoSaid : Prop := suitNamesUptoRow.holds Tryd.pinned (OpenSpec.upto suitNamesSpec)

/-- 'gambitlaw03.SuitAll', WHERE WHAT IT READS IS OF BULK AT MOST 1048576: true; the input reads as it did. -/
def suitAllUptoRow : OpenClaim := { program := "ytfafaeghnkmpcaadoor", sum := "58d5aa3c98cfd9fb02d94cb6981ca07a0841c3df25ce8e9c0b0668eb599771ea", func := "gambit/gambitlaw03.SuitAll", spec := "suitAll", unfollowed := true, recurses := true, named := ["gambit/suit.beats"], apart := false, laid := [("gambit/suit.beats", laid_gambit_suit_beats)], narrowed := true }
def SuitAllUptoSaid : Prop := suitAllUptoRow.holds Tryd.pinned (OpenSpec.upto suitAllSpec)

/-- 'gambitlaw03.SuitRound', WHERE WHAT IT READS IS OF BULK AT MOST 1048576: true; the input reads as it did. -/
def suitRoundUptoRow : OpenClaim := { program := "ytfafaeghnkmpcaadoor", sum := "58d5aa3c98cfd9fb02d94cb6981ca07a0841c3df25ce8e9c0b0668eb599771ea", func := "gambit/gambitlaw03.SuitRound", spec := "suitRound", unfollowed := true, recurses := true, named := ["gambit/suit.beats"], apart := false, laid := [("gambit/suit.beats", laid_gambit_suit_beats)], narrowed := true }
def SuitRoundUptoSaid : Prop := suitRoundUptoRow.holds Tryd.pinned (OpenSpec.upto suitRoundSpec)

/-- 'gambitlaw03.SuitTells', WHERE WHAT IT READS IS OF BULK AT MOST 1048576: true; the input reads as it did. -/
def suitTellsUptoRow : OpenClaim := { program := "ytfafaeghnkmpcaadoor", sum := "58d5aa3c98cfd9fb02d94cb6981ca07a0841c3df25ce8e9c0b0668eb599771ea", func := "gambit/gambitlaw03.SuitTells", spec := "suitTells", unfollowed := true, recurses := true, named := ["gambit/suit.beats"], apart := false, laid := [("gambit/suit.beats", laid_gambit_suit_beats)], narrowed := true }
def SuitTellsUptoSaid : Prop := suitTellsUptoRow.holds Tryd.pinned (OpenSpec.upto suitTellsSpec)

/-- 'gambitlaw04.TraitNames', WHERE WHAT IT READS IS OF BULK AT MOST 1048576: true; the input reads as it did. -/
def traitNamesUptoRow : OpenClaim := { program := "ytfafaeghnkmpcaadoor", sum := "58d5aa3c98cfd9fb02d94cb6981ca07a0841c3df25ce8e9c0b0668eb599771ea", func := "gambit/gambitlaw04.TraitNames", spec := "traitNames", inPlace := ["internal/bytealg.CountString", "internal/bytealg.IndexByteString", "internal/bytealg.IndexString"], named := ["gambit/trait.names", "unicode/utf8.first", "unicode/utf8.acceptRanges", "internal/bytealg.MaxLen"], apart := false, laid := [("unicode/utf8.acceptRanges", laid_unicode_utf8_acceptRanges), ("gambit/trait.names", laid_gambit_trait_names), ("unicode/utf8.first", laid_unicode_utf8_first)], narrowed := true }
def TraitNamesUptoSaid : Prop := traitNamesUptoRow.holds Tryd.pinned (OpenSpec.upto traitNamesSpec)

/-- 'gambitlaw04.TraitKnown', WHERE WHAT IT READS IS OF BULK AT MOST 1048576: true; the input reads as it did. -/
def traitKnownUptoRow : OpenClaim := { program := "ytfafaeghnkmpcaadoor", sum := "58d5aa3c98cfd9fb02d94cb6981ca07a0841c3df25ce8e9c0b0668eb599771ea", func := "gambit/gambitlaw04.TraitKnown", spec := "traitKnown", inPlace := ["internal/abi.NoEscape", "internal/bytealg.MakeNoZero", "internal/bytealg.CountString", "internal/bytealg.IndexByteString", "internal/bytealg.IndexString"], named := ["gambit/trait.names", "unicode/utf8.first", "unicode/utf8.acceptRanges", "internal/bytealg.MaxLen"], apart := false, laid := [("unicode/utf8.acceptRanges", laid_unicode_utf8_acceptRanges), ("gambit/trait.names", laid_gambit_trait_names), ("unicode/utf8.first", laid_unicode_utf8_first)], narrowed := true }
def TraitKnownUptoSaid : Prop := traitKnownUptoRow.holds Tryd.pinned (OpenSpec.upto traitKnownSpec)

/-- 'gambitlaw04.TraitSets', WHERE WHAT IT READS IS OF BULK AT MOST 1048576: true; the input reads as it did. -/
def traitSetsUptoRow : OpenClaim := { program := "ytfafaeghnkmpcaadoor", sum := "58d5aa3c98cfd9fb02d94cb6981ca07a0841c3df25ce8e9c0b0668eb599771ea", func := "gambit/gambitlaw04.TraitSets", spec := "traitSets", inPlace := ["internal/abi.NoEscape", "internal/bytealg.MakeNoZero"], named := ["gambit/trait.names"], apart := false, laid := [("gambit/trait.names", laid_gambit_trait_names)], narrowed := true }
def TraitSetsUptoSaid : Prop := traitSetsUptoRow.holds Tryd.pinned (OpenSpec.upto traitSetsSpec)

/-- 'gambitlaw04.TraitBits', WHERE WHAT IT READS IS OF BULK AT MOST 1048576: true; the input reads as it did. -/
def traitBitsUptoRow : OpenClaim := { program := "ytfafaeghnkmpcaadoor", sum := "58d5aa3c98cfd9fb02d94cb6981ca07a0841c3df25ce8e9c0b0668eb599771ea", func := "gambit/gambitlaw04.TraitBits", spec := "traitBits", inPlace := ["internal/bytealg.CountString", "internal/bytealg.IndexByteString", "internal/bytealg.IndexString"], named := ["gambit/trait.names", "unicode/utf8.first", "unicode/utf8.acceptRanges", "internal/bytealg.MaxLen"], apart := false, laid := [("unicode/utf8.acceptRanges", laid_unicode_utf8_acceptRanges), ("gambit/trait.names", laid_gambit_trait_names), ("unicode/utf8.first", laid_unicode_utf8_first)], narrowed := true }
def TraitBitsUptoSaid : Prop := traitBitsUptoRow.holds Tryd.pinned (OpenSpec.upto traitBitsSpec)

end Rows
end Go.Proofs.YtfafaeghnkmpcaaDoor
