/-
  No cell of these rows narrows 'for every input' (looked for: loops, veiled, ifaces, maps, wideKeys, modest, calm, conditions, laid).
  DERIVED. THE GIVEN ROWS OF THIS SEAT. 4 by the template 'for every input the law returns true; each argument reads behind the call as it read before'; 0 by the template 'total and deterministic' (their statements: YtfafaeghnkmpcaaTotals.lean).
  GIVEN WITH THE SEED: the statements are not yours to turn. If you find one false, say at which input.
  Laid BY PROGRAM, IN A SANDBOX (cutbox-rows.mjs): the forced cells as the released guide's own fill.sh prints them over the translation d71c8dd7d44cd597… (all of the seat's roots in one cut). By AI agents, Wed Nov 11 2026. No macro, syntax, notation, axiom, sorry.
-/
import Derived.Test.YtfafaeghnkmpcaaChecked
import GoSem.Claim
import GoSem.ClaimJoined
import GoSem.ClaimMapViews
import Derived.JoinedTies
import Derived.KernelRfl
namespace Go.Proofs.Ytfafaeghnkmpcaa
/- THE CELL 'sum', in the pinned program and in every row, IS THE sha256 OF THE DUMP (.gsa) THAT YtfafaeghnkmpcaaProg.lean LOADS. Nothing in Lean hashes anything: it is a label: what it is worth is what the hold of that sum in a sandbox is worth. -/
noncomputable def Try.pinned : Pinned := { name := "ytfafaeghnkmpcaa", sum := "d71c8dd7d44cd597ad20d7e9705a405b4ef9dc1679aec22208ac6ecacd5e00bf", checked := Try.checked }
namespace Rows
def none {H : Type} : Left H := { results := [], args := [] }

/-- 'gambitlaw10.FireLists': WHATEVER THE INPUT: true; the input reads as it did. -/
def fireListsSpec : ChangeSpec := { name := "fireLists", fn := fun _ => fun
  | [] => { results := [.lit (.bool true)], args := [] }
  | _ => none }
def fireListsRow : OpenClaim := { program := "ytfafaeghnkmpcaa", sum := "d71c8dd7d44cd597ad20d7e9705a405b4ef9dc1679aec22208ac6ecacd5e00bf", func := "gambit/gambitlaw10.FireLists", spec := "fireLists", unfollowed := true, recurses := true, apart := false }
def FireListsSaid : Prop := fireListsRow.holds Try.pinned (OpenSpec.ofChange fireListsSpec)

/-- ITS FALSE NEIGHBOUR: 'it returns false'. Refute it at one input. -/
def fireListsWrong : ChangeSpec := { name := "fireLists", fn := fun _ => fun
  | [] => { results := [.lit (.bool false)], args := [] }
  | _ => none }
def FireListsWrongFalsely : Prop := fireListsRow.holds Try.pinned (OpenSpec.ofChange fireListsWrong)

/-- 'gambitlaw13.GoldLists': WHATEVER THE INPUT: true; the input reads as it did. -/
def goldListsSpec : ChangeSpec := { name := "goldLists", fn := fun _ => fun
  | [] => { results := [.lit (.bool true)], args := [] }
  | _ => none }
def goldListsRow : OpenClaim := { program := "ytfafaeghnkmpcaa", sum := "d71c8dd7d44cd597ad20d7e9705a405b4ef9dc1679aec22208ac6ecacd5e00bf", func := "gambit/gambitlaw13.GoldLists", spec := "goldLists", unfollowed := true, recurses := true, apart := false }
def GoldListsSaid : Prop := goldListsRow.holds Try.pinned (OpenSpec.ofChange goldListsSpec)

/-- ITS FALSE NEIGHBOUR: 'it returns false'. Refute it at one input. -/
def goldListsWrong : ChangeSpec := { name := "goldLists", fn := fun _ => fun
  | [] => { results := [.lit (.bool false)], args := [] }
  | _ => none }
def GoldListsWrongFalsely : Prop := goldListsRow.holds Try.pinned (OpenSpec.ofChange goldListsWrong)

/-- 'gambitlaw08.AirCards': WHATEVER THE INPUT: true; the input reads as it did. -/
def airCardsSpec : ChangeSpec := { name := "airCards", fn := fun _ => fun
  | [] => { results := [.lit (.bool true)], args := [] }
  | _ => none }
def airCardsRow : OpenClaim := { program := "ytfafaeghnkmpcaa", sum := "d71c8dd7d44cd597ad20d7e9705a405b4ef9dc1679aec22208ac6ecacd5e00bf", func := "gambit/gambitlaw08.AirCards", spec := "airCards", unfollowed := true, recurses := true, apart := false }
def AirCardsSaid : Prop := airCardsRow.holds Try.pinned (OpenSpec.ofChange airCardsSpec)

/-- ITS FALSE NEIGHBOUR: 'it returns false'. Refute it at one input. -/
def airCardsWrong : ChangeSpec := { name := "airCards", fn := fun _ => fun
  | [] => { results := [.lit (.bool false)], args := [] }
  | _ => none }
def AirCardsWrongFalsely : Prop := airCardsRow.holds Try.pinned (OpenSpec.ofChange airCardsWrong)

/-- 'gambitlaw11.WaterCards': WHATEVER THE INPUT: true; the input reads as it did. -/
def waterCardsSpec : ChangeSpec := { name := "waterCards", fn := fun _ => fun
  | [] => { results := [.lit (.bool true)], args := [] }
  | _ => none }
def waterCardsRow : OpenClaim := { program := "ytfafaeghnkmpcaa", sum := "d71c8dd7d44cd597ad20d7e9705a405b4ef9dc1679aec22208ac6ecacd5e00bf", func := "gambit/gambitlaw11.WaterCards", spec := "waterCards", unfollowed := true, recurses := true, apart := false }
def WaterCardsSaid : Prop := waterCardsRow.holds Try.pinned (OpenSpec.ofChange waterCardsSpec)

/-- ITS FALSE NEIGHBOUR: 'it returns false'. Refute it at one input. -/
def waterCardsWrong : ChangeSpec := { name := "waterCards", fn := fun _ => fun
  | [] => { results := [.lit (.bool false)], args := [] }
  | _ => none }
def WaterCardsWrongFalsely : Prop := waterCardsRow.holds Try.pinned (OpenSpec.ofChange waterCardsWrong)

/- THE SECOND FORM. 'bulk': how many values and letters a reading holds, each counted each time it is reached (what is shared counts as often as it is met; a slice's spare places count too). A statement '..UptoSaid' is the law's where the arguments, and the package variables that the reading takes, are together of bulk at most 1048576: NARROWER than '..Said'. Prove '..Said' where nothing that the law and all that it calls make is longer than what came in: it says more and counts as full. Else prove '..UptoSaid'. A law counts once. -/
mutual
def uptoBulk {H : Type} : DataW H → Nat
  | .lit (.string bytes) => bytes.length + 1
  | .lit _ => 1
  | .nil => 1
  | .ptr d => uptoBulk d + 1
  | .slice elems spare => uptoBulkAll elems + uptoBulkAll spare + 1
  | .agg parts => uptoBulkAll parts + 1
  | .iface _ d => uptoBulk d + 1
  | .map entries => uptoBulkEntries entries + 1
  | .held _ => 1
def uptoBulkAll {H : Type} : List (DataW H) → Nat
  | [] => 0
  | d :: r => uptoBulk d + uptoBulkAll r
def uptoBulkEntries {H : Type} : List (Lit × DataW H) → Nat
  | [] => 0
  | x :: r => uptoBulkEntry x + uptoBulkEntries r
def uptoBulkEntry {H : Type} : Lit × DataW H → Nat
  | (.string bytes, d) => bytes.length + uptoBulk d + 1
  | (_, d) => uptoBulk d + 1
 end
def uptoSmall : (H : Type) → List (DataW H) → Bool := fun _ ds => decide (uptoBulkAll ds ≤ 1048576)
def OpenSpec.upto (s : _root_.Go.ChangeSpec) : _root_.Go.OpenSpec := { _root_.Go.OpenSpec.ofChange s with cond := some uptoSmall }

/-- 'gambitlaw10.FireLists', WHERE WHAT IT READS IS OF BULK AT MOST 1048576: true; the input reads as it did. -/
def fireListsUptoRow : OpenClaim := { program := "ytfafaeghnkmpcaa", sum := "d71c8dd7d44cd597ad20d7e9705a405b4ef9dc1679aec22208ac6ecacd5e00bf", func := "gambit/gambitlaw10.FireLists", spec := "fireLists", unfollowed := true, recurses := true, apart := false, narrowed := true }
def FireListsUptoSaid : Prop := fireListsUptoRow.holds Try.pinned (OpenSpec.upto fireListsSpec)

/-- 'gambitlaw13.GoldLists', WHERE WHAT IT READS IS OF BULK AT MOST 1048576: true; the input reads as it did. -/
def goldListsUptoRow : OpenClaim := { program := "ytfafaeghnkmpcaa", sum := "d71c8dd7d44cd597ad20d7e9705a405b4ef9dc1679aec22208ac6ecacd5e00bf", func := "gambit/gambitlaw13.GoldLists", spec := "goldLists", unfollowed := true, recurses := true, apart := false, narrowed := true }
def GoldListsUptoSaid : Prop := goldListsUptoRow.holds Try.pinned (OpenSpec.upto goldListsSpec)

/-- 'gambitlaw08.AirCards', WHERE WHAT IT READS IS OF BULK AT MOST 1048576: true; the input reads as it did. -/
def airCardsUptoRow : OpenClaim := { program := "ytfafaeghnkmpcaa", sum := "d71c8dd7d44cd597ad20d7e9705a405b4ef9dc1679aec22208ac6ecacd5e00bf", func := "gambit/gambitlaw08.AirCards", spec := "airCards", unfollowed := true, recurses := true, apart := false, narrowed := true }
def AirCardsUptoSaid : Prop := airCardsUptoRow.holds Try.pinned (OpenSpec.upto airCardsSpec)

/-- 'gambitlaw11.WaterCards', WHERE WHAT IT READS IS OF BULK AT MOST 1048576: true; the input reads as it did. -/
def waterCardsUptoRow : OpenClaim := { program := "ytfafaeghnkmpcaa", sum := "d71c8dd7d44cd597ad20d7e9705a405b4ef9dc1679aec22208ac6ecacd5e00bf", func := "gambit/gambitlaw11.WaterCards", spec := "waterCards", unfollowed := true, recurses := true, apart := false, narrowed := true }
def WaterCardsUptoSaid : Prop := waterCardsUptoRow.holds Try.pinned (OpenSpec.upto waterCardsSpec)

end Rows
end Go.Proofs.Ytfafaeghnkmpcaa
