/-
  NARROWER THAN 'FOR EVERY INPUT', by the rows' own cells (each row's printed sentence says how): AirOrder: laid · WaterOrder: laid · FireFills: laid · GoldFills: laid · EarthFills: laid · VoidFills: laid.
  DERIVED. THE GIVEN ROWS OF THIS SEAT. 6 by the template 'for every input the law returns true; each argument reads behind the call as it read before'; 0 by the template 'total and deterministic' (their statements: YtfahpjgfcndefaaDoorTotals.lean).
  GIVEN WITH THE SEED: the statements are not yours to turn. If you find one false, say at which input.
  Laid BY PROGRAM, IN A SANDBOX (cutbox-rows.mjs): the forced cells as the released guide's own fill.sh prints them over the translation 07f89540a00e44b4… (all of the seat's roots in one cut). By AI agents, Wed Nov 11 2026. No macro, syntax, notation, axiom, sorry.
-/
import Derived.Test.YtfahpjgfcndefaaDoorChecked
import GoSem.PinnedTables
import GoSem.Claim
import GoSem.ClaimJoined
import GoSem.ClaimMapViews
import Derived.JoinedTies
import Derived.KernelRfl
namespace Go.Proofs.YtfahpjgfcndefaaDoor
/- THE CELL 'sum', in the pinned program and in every row, IS THE sha256 OF THE DUMP (.gsa) THAT YtfahpjgfcndefaaDoorProg.lean LOADS. Nothing in Lean hashes anything: it is a label: what it is worth is what the hold of that sum in a sandbox is worth. -/
noncomputable def Tryd.pinned : Pinned := { name := "ytfahpjgfcndefaadoor", sum := "07f89540a00e44b40b7b484d942150fbf68402b1385dbcca7aff519c78628046", checked := Tryd.checked }
namespace Rows
def none {H : Type} : Left H := { results := [], args := [] }

/- WHAT THE LISTED PACKAGE-LEVEL VARIABLES READ AS WHEN THE CALL BEGINS. Each datum BY PROGRAM (the guide's laid-datum.mjs) off the statement by which the dump's own 'gosem.cut.vars' lays the variable. In a bare row this is a premise. The card (YtfahpjgfcndefaaDoorCards.lean) ties it to the program's text. -/
def laid_unicode_utf8_acceptRanges {H : Type} : DataW H := .agg [.agg [.lit (.int .u8 128), .lit (.int .u8 191)], .agg [.lit (.int .u8 160), .lit (.int .u8 191)], .agg [.lit (.int .u8 128), .lit (.int .u8 159)], .agg [.lit (.int .u8 144), .lit (.int .u8 191)], .agg [.lit (.int .u8 128), .lit (.int .u8 143)], .agg [.lit (.int .u8 0), .lit (.int .u8 0)], .agg [.lit (.int .u8 0), .lit (.int .u8 0)], .agg [.lit (.int .u8 0), .lit (.int .u8 0)], .agg [.lit (.int .u8 0), .lit (.int .u8 0)], .agg [.lit (.int .u8 0), .lit (.int .u8 0)], .agg [.lit (.int .u8 0), .lit (.int .u8 0)], .agg [.lit (.int .u8 0), .lit (.int .u8 0)], .agg [.lit (.int .u8 0), .lit (.int .u8 0)], .agg [.lit (.int .u8 0), .lit (.int .u8 0)], .agg [.lit (.int .u8 0), .lit (.int .u8 0)], .agg [.lit (.int .u8 0), .lit (.int .u8 0)]]
def laid_gambit_trait_names {H : Type} : DataW H := .agg [.lit (.string []), .lit (.string [102, 97, 115, 116]), .lit (.string [103, 117, 97, 114, 100]), .lit (.string [118, 101, 110, 111, 109]), .lit (.string [108, 111, 110, 101]), .lit (.string [100, 114, 97, 105, 110]), .lit (.string [109, 117, 116, 101]), .lit (.string [102, 105, 120, 101, 100]), .lit (.string [115, 119, 105, 102, 116])]
/-- One of Go's own tables, pinned by name: the form's constant. -/
def laid_unicode_utf8_first : DataW Unit := Go.Pinned.utf8First

/-- 'gambitlaw08.AirOrder': WHATEVER THE INPUT: true; the input reads as it did. -/
def airOrderSpec : ChangeSpec := { name := "airOrder", fn := fun _ => fun
  | [d] => { results := [.lit (.bool true)], args := [d] }
  | _ => none }
def airOrderRow : OpenClaim := { program := "ytfahpjgfcndefaadoor", sum := "07f89540a00e44b40b7b484d942150fbf68402b1385dbcca7aff519c78628046", func := "gambit/gambitlaw08.AirOrder", spec := "airOrder", inPlace := ["internal/bytealg.IndexByteString", "internal/bytealg.IndexString"], unfollowed := true, recurses := true, named := ["unicode/utf8.first", "unicode/utf8.acceptRanges", "gambit/trait.names", "internal/bytealg.MaxLen"], apart := false, laid := [("unicode/utf8.acceptRanges", laid_unicode_utf8_acceptRanges), ("gambit/trait.names", laid_gambit_trait_names), ("unicode/utf8.first", laid_unicode_utf8_first)] }
def AirOrderSaid : Prop := airOrderRow.holds Tryd.pinned (OpenSpec.ofChange airOrderSpec)

/-- ITS FALSE NEIGHBOUR: 'it returns false'. Refute it at one input. -/
def airOrderWrong : ChangeSpec := { name := "airOrder", fn := fun _ => fun
  | [d] => { results := [.lit (.bool false)], args := [d] }
  | _ => none }
def AirOrderWrongFalsely : Prop := airOrderRow.holds Tryd.pinned (OpenSpec.ofChange airOrderWrong)

/-- 'gambitlaw11.WaterOrder': WHATEVER THE INPUT: true; the input reads as it did. -/
def waterOrderSpec : ChangeSpec := { name := "waterOrder", fn := fun _ => fun
  | [d] => { results := [.lit (.bool true)], args := [d] }
  | _ => none }
def waterOrderRow : OpenClaim := { program := "ytfahpjgfcndefaadoor", sum := "07f89540a00e44b40b7b484d942150fbf68402b1385dbcca7aff519c78628046", func := "gambit/gambitlaw11.WaterOrder", spec := "waterOrder", inPlace := ["internal/bytealg.IndexByteString", "internal/bytealg.IndexString"], unfollowed := true, recurses := true, named := ["unicode/utf8.first", "unicode/utf8.acceptRanges", "gambit/trait.names", "internal/bytealg.MaxLen"], apart := false, laid := [("unicode/utf8.acceptRanges", laid_unicode_utf8_acceptRanges), ("gambit/trait.names", laid_gambit_trait_names), ("unicode/utf8.first", laid_unicode_utf8_first)] }
def WaterOrderSaid : Prop := waterOrderRow.holds Tryd.pinned (OpenSpec.ofChange waterOrderSpec)

/-- ITS FALSE NEIGHBOUR: 'it returns false'. Refute it at one input. -/
def waterOrderWrong : ChangeSpec := { name := "waterOrder", fn := fun _ => fun
  | [d] => { results := [.lit (.bool false)], args := [d] }
  | _ => none }
def WaterOrderWrongFalsely : Prop := waterOrderRow.holds Tryd.pinned (OpenSpec.ofChange waterOrderWrong)

/-- 'gambitlaw10.FireFills': WHATEVER THE INPUT: true; the input reads as it did. -/
def fireFillsSpec : ChangeSpec := { name := "fireFills", fn := fun _ => fun
  | [d] => { results := [.lit (.bool true)], args := [d] }
  | _ => none }
def fireFillsRow : OpenClaim := { program := "ytfahpjgfcndefaadoor", sum := "07f89540a00e44b40b7b484d942150fbf68402b1385dbcca7aff519c78628046", func := "gambit/gambitlaw10.FireFills", spec := "fireFills", inPlace := ["internal/bytealg.IndexByteString", "internal/bytealg.IndexString"], unfollowed := true, recurses := true, named := ["unicode/utf8.first", "unicode/utf8.acceptRanges", "internal/bytealg.MaxLen"], apart := false, laid := [("unicode/utf8.acceptRanges", laid_unicode_utf8_acceptRanges), ("unicode/utf8.first", laid_unicode_utf8_first)] }
def FireFillsSaid : Prop := fireFillsRow.holds Tryd.pinned (OpenSpec.ofChange fireFillsSpec)

/-- ITS FALSE NEIGHBOUR: 'it returns false'. Refute it at one input. -/
def fireFillsWrong : ChangeSpec := { name := "fireFills", fn := fun _ => fun
  | [d] => { results := [.lit (.bool false)], args := [d] }
  | _ => none }
def FireFillsWrongFalsely : Prop := fireFillsRow.holds Tryd.pinned (OpenSpec.ofChange fireFillsWrong)

/-- 'gambitlaw13.GoldFills': WHATEVER THE INPUT: true; the input reads as it did. -/
def goldFillsSpec : ChangeSpec := { name := "goldFills", fn := fun _ => fun
  | [d] => { results := [.lit (.bool true)], args := [d] }
  | _ => none }
def goldFillsRow : OpenClaim := { program := "ytfahpjgfcndefaadoor", sum := "07f89540a00e44b40b7b484d942150fbf68402b1385dbcca7aff519c78628046", func := "gambit/gambitlaw13.GoldFills", spec := "goldFills", inPlace := ["internal/bytealg.IndexByteString", "internal/bytealg.IndexString"], unfollowed := true, recurses := true, named := ["unicode/utf8.first", "unicode/utf8.acceptRanges", "internal/bytealg.MaxLen"], apart := false, laid := [("unicode/utf8.acceptRanges", laid_unicode_utf8_acceptRanges), ("unicode/utf8.first", laid_unicode_utf8_first)] }
def GoldFillsSaid : Prop := goldFillsRow.holds Tryd.pinned (OpenSpec.ofChange goldFillsSpec)

/-- ITS FALSE NEIGHBOUR: 'it returns false'. Refute it at one input. -/
def goldFillsWrong : ChangeSpec := { name := "goldFills", fn := fun _ => fun
  | [d] => { results := [.lit (.bool false)], args := [d] }
  | _ => none }
def GoldFillsWrongFalsely : Prop := goldFillsRow.holds Tryd.pinned (OpenSpec.ofChange goldFillsWrong)

/-- 'gambitlaw09.EarthFills': WHATEVER THE INPUT: true; the input reads as it did. -/
def earthFillsSpec : ChangeSpec := { name := "earthFills", fn := fun _ => fun
  | [d1, d2] => { results := [.lit (.bool true)], args := [d1, d2] }
  | _ => none }
def earthFillsRow : OpenClaim := { program := "ytfahpjgfcndefaadoor", sum := "07f89540a00e44b40b7b484d942150fbf68402b1385dbcca7aff519c78628046", func := "gambit/gambitlaw09.EarthFills", spec := "earthFills", inPlace := ["internal/bytealg.IndexByteString", "internal/bytealg.IndexString"], unfollowed := true, recurses := true, named := ["unicode/utf8.first", "unicode/utf8.acceptRanges", "internal/bytealg.MaxLen"], apart := false, laid := [("unicode/utf8.acceptRanges", laid_unicode_utf8_acceptRanges), ("unicode/utf8.first", laid_unicode_utf8_first)] }
def EarthFillsSaid : Prop := earthFillsRow.holds Tryd.pinned (OpenSpec.ofChange earthFillsSpec)

/-- ITS FALSE NEIGHBOUR: 'it returns false'. Refute it at one input. -/
def earthFillsWrong : ChangeSpec := { name := "earthFills", fn := fun _ => fun
  | [d1, d2] => { results := [.lit (.bool false)], args := [d1, d2] }
  | _ => none }
def EarthFillsWrongFalsely : Prop := earthFillsRow.holds Tryd.pinned (OpenSpec.ofChange earthFillsWrong)

/-- 'gambitlaw12.VoidFills': WHATEVER THE INPUT: true; the input reads as it did. -/
def voidFillsSpec : ChangeSpec := { name := "voidFills", fn := fun _ => fun
  | [d1, d2] => { results := [.lit (.bool true)], args := [d1, d2] }
  | _ => none }
def voidFillsRow : OpenClaim := { program := "ytfahpjgfcndefaadoor", sum := "07f89540a00e44b40b7b484d942150fbf68402b1385dbcca7aff519c78628046", func := "gambit/gambitlaw12.VoidFills", spec := "voidFills", inPlace := ["internal/bytealg.IndexByteString", "internal/bytealg.IndexString"], unfollowed := true, recurses := true, named := ["unicode/utf8.first", "unicode/utf8.acceptRanges", "internal/bytealg.MaxLen"], apart := false, laid := [("unicode/utf8.acceptRanges", laid_unicode_utf8_acceptRanges), ("unicode/utf8.first", laid_unicode_utf8_first)] }
def VoidFillsSaid : Prop := voidFillsRow.holds Tryd.pinned (OpenSpec.ofChange voidFillsSpec)

/-- ITS FALSE NEIGHBOUR: 'it returns false'. Refute it at one input. -/
def voidFillsWrong : ChangeSpec := { name := "voidFills", fn := fun _ => fun
  | [d1, d2] => { results := [.lit (.bool false)], args := [d1, d2] }
  | _ => none }
def VoidFillsWrongFalsely : Prop := voidFillsRow.holds Tryd.pinned (OpenSpec.ofChange voidFillsWrong)

/- THE SECOND FORM. 'bulk': how many values and letters a reading holds, each counted each time it is reached (what is shared counts as often as it is met; a slice's spare places count too). A statement '..UptoSaid' is the law's where the arguments, and the package variables that the reading takes, are together of bulk at most 1048576: NARROWER than '..Said'. Prove '..Said' where nothing that the law and all that it calls make is longer than what came in: it says more and counts as full. Else prove '..UptoSaid'. A law counts once. -/
mutual
def uptoBulk {H : Type} : DataW H → Nat
  | .lit (.string bytes) => bytes.length + 1
  | .lit _ => 1
  | .nil => 1
  | .ptr d => uptoBulk d + 1
  | .slice elems spare => uptoBulkAll elems + uptoBulkAll spare + 1
  | .agg parts => uptoBulkAll parts + 1
  | .iface _ d => uptoBulk d + 1
  | .map entries => uptoBulkEntries entries + 1
  | .held _ => 1
def uptoBulkAll {H : Type} : List (DataW H) → Nat
  | [] => 0
  | d :: r => uptoBulk d + uptoBulkAll r
def uptoBulkEntries {H : Type} : List (Lit × DataW H) → Nat
  | [] => 0
  | x :: r => uptoBulkEntry x + uptoBulkEntries r
def uptoBulkEntry {H : Type} : Lit × DataW H → Nat
  | (.string bytes, d) => bytes.length + uptoBulk d + 1
  | (_, d) => uptoBulk d + 1
 end
def uptoSmall : (H : Type) → List (DataW H) → Bool := fun _ ds => decide (uptoBulkAll ds ≤ 1048576)
def OpenSpec.upto (s : _root_.Go.ChangeSpec) : _root_.Go.OpenSpec := { _root_.Go.OpenSpec.ofChange s with cond := some uptoSmall }

/-- 'gambitlaw08.AirOrder', WHERE WHAT IT READS IS OF BULK AT MOST 1048576: true; the input reads as it did. -/
def airOrderUptoRow : OpenClaim := { program := "ytfahpjgfcndefaadoor", sum := "07f89540a00e44b40b7b484d942150fbf68402b1385dbcca7aff519c78628046", func := "gambit/gambitlaw08.AirOrder", spec := "airOrder", inPlace := ["internal/bytealg.IndexByteString", "internal/bytealg.IndexString"], unfollowed := true, recurses := true, named := ["unicode/utf8.first", "unicode/utf8.acceptRanges", "gambit/trait.names", "internal/bytealg.MaxLen"], apart := false, laid := [("unicode/utf8.acceptRanges", laid_unicode_utf8_acceptRanges), ("gambit/trait.names", laid_gambit_trait_names), ("unicode/utf8.first", laid_unicode_utf8_first)], narrowed := true }
def AirOrderUptoSaid : Prop := airOrderUptoRow.holds Tryd.pinned (OpenSpec.upto airOrderSpec)

/-- 'gambitlaw11.WaterOrder', WHERE WHAT IT READS IS OF BULK AT MOST 1048576: true; the input reads as it did. -/
def waterOrderUptoRow : OpenClaim := { program := "ytfahpjgfcndefaadoor", sum := "07f89540a00e44b40b7b484d942150fbf68402b1385dbcca7aff519c78628046", func := "gambit/gambitlaw11.WaterOrder", spec := "waterOrder", inPlace := ["internal/bytealg.IndexByteString", "internal/bytealg.IndexString"], unfollowed := true, recurses := true, named := ["unicode/utf8.first", "unicode/utf8.acceptRanges", "gambit/trait.names", "internal/bytealg.MaxLen"], apart := false, laid := [("unicode/utf8.acceptRanges", laid_unicode_utf8_acceptRanges), ("gambit/trait.names", laid_gambit_trait_names), ("unicode/utf8.first", laid_unicode_utf8_first)], narrowed := true }
def WaterOrderUptoSaid : Prop := waterOrderUptoRow.holds Tryd.pinned (OpenSpec.upto waterOrderSpec)

/-- 'gambitlaw10.FireFills', WHERE WHAT IT READS IS OF BULK AT MOST 1048576: true; the input reads as it did. -/
def fireFillsUptoRow : OpenClaim := { program := "ytfahpjgfcndefaadoor", sum := "07f89540a00e44b40b7b484d942150fbf68402b1385dbcca7aff519c78628046", func := "gambit/gambitlaw10.FireFills", spec := "fireFills", inPlace := ["internal/bytealg.IndexByteString", "internal/bytealg.IndexString"], unfollowed := true, recurses := true, named := ["unicode/utf8.first", "unicode/utf8.acceptRanges", "internal/bytealg.MaxLen"], apart := false, laid := [("unicode/utf8.acceptRanges", laid_unicode_utf8_acceptRanges), ("unicode/utf8.first", laid_unicode_utf8_first)], narrowed := true }
def FireFillsUptoSaid : Prop := fireFillsUptoRow.holds Tryd.pinned (OpenSpec.upto fireFillsSpec)

/-- 'gambitlaw13.GoldFills', WHERE WHAT IT READS IS OF BULK AT MOST 1048576: true; the input reads as it did. -/
def goldFillsUptoRow : OpenClaim := { program := "ytfahpjgfcndefaadoor", sum := "07f89540a00e44b40b7b484d942150fbf68402b1385dbcca7aff519c78628046", func := "gambit/gambitlaw13.GoldFills", spec := "goldFills", inPlace := ["internal/bytealg.IndexByteString", "internal/bytealg.IndexString"], unfollowed := true, recurses := true, named := ["unicode/utf8.first", "unicode/utf8.acceptRanges", "internal/bytealg.MaxLen"], apart := false, laid := [("unicode/utf8.acceptRanges", laid_unicode_utf8_acceptRanges), ("unicode/utf8.first", laid_unicode_utf8_first)], narrowed := true }
def GoldFillsUptoSaid : Prop := goldFillsUptoRow.holds Tryd.pinned (OpenSpec.upto goldFillsSpec)

/-- 'gambitlaw09.EarthFills', WHERE WHAT IT READS IS OF BULK AT MOST 1048576: true; the input reads as it did. -/
def earthFillsUptoRow : OpenClaim := { program := "ytfahpjgfcndefaadoor", sum := "07f89540a00e44b40b7b484d942150fbf68402b1385dbcca7aff519c78628046", func := "gambit/gambitlaw09.EarthFills", spec := "earthFills", inPlace := ["internal/bytealg.IndexByteString", "internal/bytealg.IndexString"], unfollowed := true, recurses := true, named := ["unicode/utf8.first", "unicode/utf8.acceptRanges", "internal/bytealg.MaxLen"], apart := false, laid := [("unicode/utf8.acceptRanges", laid_unicode_utf8_acceptRanges), ("unicode/utf8.first", laid_unicode_utf8_first)], narrowed := true }
def EarthFillsUptoSaid : Prop := earthFillsUptoRow.holds Tryd.pinned (OpenSpec.upto earthFillsSpec)

/-- 'gambitlaw12.VoidFills', WHERE WHAT IT READS IS OF BULK AT MOST 1048576: true; the input reads as it did. -/
def voidFillsUptoRow : OpenClaim := { program := "ytfahpjgfcndefaadoor", sum := "07f89540a00e44b40b7b484d942150fbf68402b1385dbcca7aff519c78628046", func := "gambit/gambitlaw12.VoidFills", spec := "voidFills", inPlace := ["internal/bytealg.IndexByteString", "internal/bytealg.IndexString"], unfollowed := true, recurses := true, named := ["unicode/utf8.first", "unicode/utf8.acceptRanges", "internal/bytealg.MaxLen"], apart := false, laid := [("unicode/utf8.acceptRanges", laid_unicode_utf8_acceptRanges), ("unicode/utf8.first", laid_unicode_utf8_first)], narrowed := true }
def VoidFillsUptoSaid : Prop := voidFillsUptoRow.holds Tryd.pinned (OpenSpec.upto voidFillsSpec)

end Rows
end Go.Proofs.YtfahpjgfcndefaaDoor
