/-
  No cell of these rows narrows 'for every input' (looked for: loops, veiled, ifaces, maps, wideKeys, modest, calm, conditions, laid).
  DERIVED. THE GIVEN ROWS OF THIS SEAT. 9 by the template 'for every input the law returns true; each argument reads behind the call as it read before'; 0 by the template 'total and deterministic' (their statements: YtnkmiigjfmalmaaTotals.lean).
  GIVEN WITH THE SEED: the statements are not yours to turn. If you find one false, say at which input.
  Laid BY PROGRAM, IN A SANDBOX (cutbox-rows.mjs): the forced cells as the released guide's own fill.sh prints them over the translation 345ad92f01532e6a… (all of the seat's roots in one cut). By AI agents, Wed Nov 11 2026. No macro, syntax, notation, axiom, sorry.
-/
import Derived.Test.YtnkmiigjfmalmaaChecked
import GoSem.Claim
import GoSem.ClaimJoined
import GoSem.ClaimMapViews
import Derived.JoinedTies
import Derived.KernelRfl
namespace Go.Proofs.Ytnkmiigjfmalmaa
/- THE CELL 'sum', in the pinned program and in every row, IS THE sha256 OF THE DUMP (.gsa) THAT YtnkmiigjfmalmaaProg.lean LOADS. Nothing in Lean hashes anything: it is a label: what it is worth is what the hold of that sum in a sandbox is worth. -/
noncomputable def Try.pinned : Pinned := { name := "ytnkmiigjfmalmaa", sum := "345ad92f01532e6a3bb5ede1d69714e645775ac988348c8a5d63aa0e57b09623", checked := Try.checked }
namespace Rows
def none {H : Type} : Left H := { results := [], args := [] }

/-- 'gambitlaw02.RankBegins': WHATEVER THE INPUT: true; the input reads as it did. -/
def rankBeginsSpec : ChangeSpec := { name := "rankBegins", fn := fun _ => fun
  | [d1, d2] => { results := [.lit (.bool true)], args := [d1, d2] }
  | _ => none }
def rankBeginsRow : OpenClaim := { program := "ytnkmiigjfmalmaa", sum := "345ad92f01532e6a3bb5ede1d69714e645775ac988348c8a5d63aa0e57b09623", func := "gambit/gambitlaw02.RankBegins", spec := "rankBegins", apart := false }
def RankBeginsSaid : Prop := rankBeginsRow.holds Try.pinned (OpenSpec.ofChange rankBeginsSpec)

/-- ITS FALSE NEIGHBOUR: 'it returns false'. Refute it at one input. -/
def rankBeginsWrong : ChangeSpec := { name := "rankBegins", fn := fun _ => fun
  | [d1, d2] => { results := [.lit (.bool false)], args := [d1, d2] }
  | _ => none }
def RankBeginsWrongFalsely : Prop := rankBeginsRow.holds Try.pinned (OpenSpec.ofChange rankBeginsWrong)

/-- 'gambitlaw03.SuitBegins': WHATEVER THE INPUT: true; the input reads as it did. -/
def suitBeginsSpec : ChangeSpec := { name := "suitBegins", fn := fun _ => fun
  | [d1, d2] => { results := [.lit (.bool true)], args := [d1, d2] }
  | _ => none }
def suitBeginsRow : OpenClaim := { program := "ytnkmiigjfmalmaa", sum := "345ad92f01532e6a3bb5ede1d69714e645775ac988348c8a5d63aa0e57b09623", func := "gambit/gambitlaw03.SuitBegins", spec := "suitBegins", apart := false }
def SuitBeginsSaid : Prop := suitBeginsRow.holds Try.pinned (OpenSpec.ofChange suitBeginsSpec)

/-- ITS FALSE NEIGHBOUR: 'it returns false'. Refute it at one input. -/
def suitBeginsWrong : ChangeSpec := { name := "suitBegins", fn := fun _ => fun
  | [d1, d2] => { results := [.lit (.bool false)], args := [d1, d2] }
  | _ => none }
def SuitBeginsWrongFalsely : Prop := suitBeginsRow.holds Try.pinned (OpenSpec.ofChange suitBeginsWrong)

/-- 'gambitlaw04.TraitBegins': WHATEVER THE INPUT: true; the input reads as it did. -/
def traitBeginsSpec : ChangeSpec := { name := "traitBegins", fn := fun _ => fun
  | [d1, d2] => { results := [.lit (.bool true)], args := [d1, d2] }
  | _ => none }
def traitBeginsRow : OpenClaim := { program := "ytnkmiigjfmalmaa", sum := "345ad92f01532e6a3bb5ede1d69714e645775ac988348c8a5d63aa0e57b09623", func := "gambit/gambitlaw04.TraitBegins", spec := "traitBegins", apart := false }
def TraitBeginsSaid : Prop := traitBeginsRow.holds Try.pinned (OpenSpec.ofChange traitBeginsSpec)

/-- ITS FALSE NEIGHBOUR: 'it returns false'. Refute it at one input. -/
def traitBeginsWrong : ChangeSpec := { name := "traitBegins", fn := fun _ => fun
  | [d1, d2] => { results := [.lit (.bool false)], args := [d1, d2] }
  | _ => none }
def TraitBeginsWrongFalsely : Prop := traitBeginsRow.holds Try.pinned (OpenSpec.ofChange traitBeginsWrong)

/-- 'gambitlaw08.AirBegins': WHATEVER THE INPUT: true; the input reads as it did. -/
def airBeginsSpec : ChangeSpec := { name := "airBegins", fn := fun _ => fun
  | [d1, d2] => { results := [.lit (.bool true)], args := [d1, d2] }
  | _ => none }
def airBeginsRow : OpenClaim := { program := "ytnkmiigjfmalmaa", sum := "345ad92f01532e6a3bb5ede1d69714e645775ac988348c8a5d63aa0e57b09623", func := "gambit/gambitlaw08.AirBegins", spec := "airBegins", apart := false }
def AirBeginsSaid : Prop := airBeginsRow.holds Try.pinned (OpenSpec.ofChange airBeginsSpec)

/-- ITS FALSE NEIGHBOUR: 'it returns false'. Refute it at one input. -/
def airBeginsWrong : ChangeSpec := { name := "airBegins", fn := fun _ => fun
  | [d1, d2] => { results := [.lit (.bool false)], args := [d1, d2] }
  | _ => none }
def AirBeginsWrongFalsely : Prop := airBeginsRow.holds Try.pinned (OpenSpec.ofChange airBeginsWrong)

/-- 'gambitlaw11.WaterBegins': WHATEVER THE INPUT: true; the input reads as it did. -/
def waterBeginsSpec : ChangeSpec := { name := "waterBegins", fn := fun _ => fun
  | [d1, d2] => { results := [.lit (.bool true)], args := [d1, d2] }
  | _ => none }
def waterBeginsRow : OpenClaim := { program := "ytnkmiigjfmalmaa", sum := "345ad92f01532e6a3bb5ede1d69714e645775ac988348c8a5d63aa0e57b09623", func := "gambit/gambitlaw11.WaterBegins", spec := "waterBegins", apart := false }
def WaterBeginsSaid : Prop := waterBeginsRow.holds Try.pinned (OpenSpec.ofChange waterBeginsSpec)

/-- ITS FALSE NEIGHBOUR: 'it returns false'. Refute it at one input. -/
def waterBeginsWrong : ChangeSpec := { name := "waterBegins", fn := fun _ => fun
  | [d1, d2] => { results := [.lit (.bool false)], args := [d1, d2] }
  | _ => none }
def WaterBeginsWrongFalsely : Prop := waterBeginsRow.holds Try.pinned (OpenSpec.ofChange waterBeginsWrong)

/-- 'gambitlaw09.EarthBegins': WHATEVER THE INPUT: true; the input reads as it did. -/
def earthBeginsSpec : ChangeSpec := { name := "earthBegins", fn := fun _ => fun
  | [d1, d2] => { results := [.lit (.bool true)], args := [d1, d2] }
  | _ => none }
def earthBeginsRow : OpenClaim := { program := "ytnkmiigjfmalmaa", sum := "345ad92f01532e6a3bb5ede1d69714e645775ac988348c8a5d63aa0e57b09623", func := "gambit/gambitlaw09.EarthBegins", spec := "earthBegins", apart := false }
def EarthBeginsSaid : Prop := earthBeginsRow.holds Try.pinned (OpenSpec.ofChange earthBeginsSpec)

/-- ITS FALSE NEIGHBOUR: 'it returns false'. Refute it at one input. -/
def earthBeginsWrong : ChangeSpec := { name := "earthBegins", fn := fun _ => fun
  | [d1, d2] => { results := [.lit (.bool false)], args := [d1, d2] }
  | _ => none }
def EarthBeginsWrongFalsely : Prop := earthBeginsRow.holds Try.pinned (OpenSpec.ofChange earthBeginsWrong)

/-- 'gambitlaw12.VoidBegins': WHATEVER THE INPUT: true; the input reads as it did. -/
def voidBeginsSpec : ChangeSpec := { name := "voidBegins", fn := fun _ => fun
  | [d1, d2] => { results := [.lit (.bool true)], args := [d1, d2] }
  | _ => none }
def voidBeginsRow : OpenClaim := { program := "ytnkmiigjfmalmaa", sum := "345ad92f01532e6a3bb5ede1d69714e645775ac988348c8a5d63aa0e57b09623", func := "gambit/gambitlaw12.VoidBegins", spec := "voidBegins", apart := false }
def VoidBeginsSaid : Prop := voidBeginsRow.holds Try.pinned (OpenSpec.ofChange voidBeginsSpec)

/-- ITS FALSE NEIGHBOUR: 'it returns false'. Refute it at one input. -/
def voidBeginsWrong : ChangeSpec := { name := "voidBegins", fn := fun _ => fun
  | [d1, d2] => { results := [.lit (.bool false)], args := [d1, d2] }
  | _ => none }
def VoidBeginsWrongFalsely : Prop := voidBeginsRow.holds Try.pinned (OpenSpec.ofChange voidBeginsWrong)

/-- 'gambitlaw10.FireBegins': WHATEVER THE INPUT: true; the input reads as it did. -/
def fireBeginsSpec : ChangeSpec := { name := "fireBegins", fn := fun _ => fun
  | [d1, d2] => { results := [.lit (.bool true)], args := [d1, d2] }
  | _ => none }
def fireBeginsRow : OpenClaim := { program := "ytnkmiigjfmalmaa", sum := "345ad92f01532e6a3bb5ede1d69714e645775ac988348c8a5d63aa0e57b09623", func := "gambit/gambitlaw10.FireBegins", spec := "fireBegins", apart := false }
def FireBeginsSaid : Prop := fireBeginsRow.holds Try.pinned (OpenSpec.ofChange fireBeginsSpec)

/-- ITS FALSE NEIGHBOUR: 'it returns false'. Refute it at one input. -/
def fireBeginsWrong : ChangeSpec := { name := "fireBegins", fn := fun _ => fun
  | [d1, d2] => { results := [.lit (.bool false)], args := [d1, d2] }
  | _ => none }
def FireBeginsWrongFalsely : Prop := fireBeginsRow.holds Try.pinned (OpenSpec.ofChange fireBeginsWrong)

/-- 'gambitlaw13.GoldBegins': WHATEVER THE INPUT: true; the input reads as it did. -/
def goldBeginsSpec : ChangeSpec := { name := "goldBegins", fn := fun _ => fun
  | [d1, d2] => { results := [.lit (.bool true)], args := [d1, d2] }
  | _ => none }
def goldBeginsRow : OpenClaim := { program := "ytnkmiigjfmalmaa", sum := "345ad92f01532e6a3bb5ede1d69714e645775ac988348c8a5d63aa0e57b09623", func := "gambit/gambitlaw13.GoldBegins", spec := "goldBegins", apart := false }
def GoldBeginsSaid : Prop := goldBeginsRow.holds Try.pinned (OpenSpec.ofChange goldBeginsSpec)

/-- ITS FALSE NEIGHBOUR: 'it returns false'. Refute it at one input. -/
def goldBeginsWrong : ChangeSpec := { name := "goldBegins", fn := fun _ => fun
  | [d1, d2] => { results := [.lit (.bool false)], args := [d1, d2] }
  | _ => none }
def GoldBeginsWrongFalsely : Prop := goldBeginsRow.holds Try.pinned (OpenSpec.ofChange goldBeginsWrong)

/- THE SECOND FORM. 'bulk': how many values and letters a reading holds, each counted each time it is reached (what is shared counts as often as it is met; a slice's spare places count too). A statement '..UptoSaid' is the law's where the arguments, and the package variables that the reading takes, are together of bulk at most 1048576: NARROWER than '..Said'. Prove '..Said' where nothing that the law and all that it calls make is longer than what came in: it says more and counts as full. Else prove '..UptoSaid'. A law counts once. -/
mutual
def uptoBulk {H : Type} : DataW H → Nat
  | .lit (.string bytes) => bytes.length + 1
  | .lit _ => 1
  | .nil => 1
  | .ptr d => uptoBulk d + 1
  | .slice elems spare => uptoBulkAll elems + uptoBulkAll spare + 1
  | .agg parts => uptoBulkAll parts + 1
  | .iface _ d => uptoBulk d + 1
  | .map entries => uptoBulkEntries entries + 1
  | .held _ => 1
def uptoBulkAll {H : Type} : List (DataW H) → Nat
  | [] => 0
  | d :: r => uptoBulk d + uptoBulkAll r
def uptoBulkEntries {H : Type} : List (Lit × DataW H) → Nat
  | [] => 0
  | x :: r => uptoBulkEntry x + uptoBulkEntries r
def uptoBulkEntry {H : Type} : Lit × DataW H → Nat
  | (.string bytes, d) => bytes.length + uptoBulk d + 1
  | (_, d) => uptoBulk d + 1
 end
def uptoSmall : (H : Type) → List (DataW H) → Bool := fun _ ds => decide (uptoBulkAll ds ≤ 1048576)
def OpenSpec.upto (s : _root_.Go.ChangeSpec) : _root_.Go.OpenSpec := { _root_.Go.OpenSpec.ofChange s with cond := some uptoSmall }

/-- 'gambitlaw02.RankBegins', WHERE WHAT IT READS IS OF BULK AT MOST 1048576: true; the input reads as it did. -/
def rankBeginsUptoRow : OpenClaim := { program := "ytnkmiigjfmalmaa", sum := "345ad92f01532e6a3bb5ede1d69714e645775ac988348c8a5d63aa0e57b09623", func := "gambit/gambitlaw02.RankBegins", spec := "rankBegins", apart := false, narrowed := true }
def RankBeginsUptoSaid : Prop := rankBeginsUptoRow.holds Try.pinned (OpenSpec.upto rankBeginsSpec)

/-- 'gambitlaw03.SuitBegins', WHERE WHAT IT READS IS OF BULK AT MOST 1048576: true; the input reads as it did. -/
def suitBeginsUptoRow : OpenClaim := { program := "ytnkmiigjfmalmaa", sum := "345ad92f01532e6a3bb5ede1d69714e645775ac988348c8a5d63aa0e57b09623", func := "gambit/gambitlaw03.SuitBegins", spec := "suitBegins", apart := false, narrowed := true }
def SuitBeginsUptoSaid : Prop := suitBeginsUptoRow.holds Try.pinned (OpenSpec.upto suitBeginsSpec)

/-- 'gambitlaw04.TraitBegins', WHERE WHAT IT READS IS OF BULK AT MOST 1048576: true; the input reads as it did. -/
def traitBeginsUptoRow : OpenClaim := { program := "ytnkmiigjfmalmaa", sum := "345ad92f01532e6a3bb5ede1d69714e645775ac988348c8a5d63aa0e57b09623", func := "gambit/gambitlaw04.TraitBegins", spec := "traitBegins", apart := false, narrowed := true }
def TraitBeginsUptoSaid : Prop := traitBeginsUptoRow.holds Try.pinned (OpenSpec.upto traitBeginsSpec)

/-- 'gambitlaw08.AirBegins', WHERE WHAT IT READS IS OF BULK AT MOST 1048576: true; the input reads as it did. -/
def airBeginsUptoRow : OpenClaim := { program := "ytnkmiigjfmalmaa", sum := "345ad92f01532e6a3bb5ede1d69714e645775ac988348c8a5d63aa0e57b09623", func := "gambit/gambitlaw08.AirBegins", spec := "airBegins", apart := false, narrowed := true }
def AirBeginsUptoSaid : Prop := airBeginsUptoRow.holds Try.pinned (OpenSpec.upto airBeginsSpec)

/-- 'gambitlaw11.WaterBegins', WHERE WHAT IT READS IS OF BULK AT MOST 1048576: true; the input reads as it did. -/
def waterBeginsUptoRow : OpenClaim := { program := "ytnkmiigjfmalmaa", sum := "345ad92f01532e6a3bb5ede1d69714e645775ac988348c8a5d63aa0e57b09623", func := "gambit/gambitlaw11.WaterBegins", spec := "waterBegins", apart := false, narrowed := true }
def WaterBeginsUptoSaid : Prop := waterBeginsUptoRow.holds Try.pinned (OpenSpec.upto waterBeginsSpec)

/-- 'gambitlaw09.EarthBegins', WHERE WHAT IT READS IS OF BULK AT MOST 1048576: true; the input reads as it did. -/
def earthBeginsUptoRow : OpenClaim := { program := "ytnkmiigjfmalmaa", sum := "345ad92f01532e6a3bb5ede1d69714e645775ac988348c8a5d63aa0e57b09623", func := "gambit/gambitlaw09.EarthBegins", spec := "earthBegins", apart := false, narrowed := true }
def EarthBeginsUptoSaid : Prop := earthBeginsUptoRow.holds Try.pinned (OpenSpec.upto earthBeginsSpec)

/-- 'gambitlaw12.VoidBegins', WHERE WHAT IT READS IS OF BULK AT MOST 1048576: true; the input reads as it did. -/
def voidBeginsUptoRow : OpenClaim := { program := "ytnkmiigjfmalmaa", sum := "345ad92f01532e6a3bb5ede1d69714e645775ac988348c8a5d63aa0e57b09623", func := "gambit/gambitlaw12.VoidBegins", spec := "voidBegins", apart := false, narrowed := true }
def VoidBeginsUptoSaid : Prop := voidBeginsUptoRow.holds Try.pinned (OpenSpec.upto voidBeginsSpec)

/-- 'gambitlaw10.FireBegins', WHERE WHAT IT READS IS OF BULK AT MOST 1048576: true; the input reads as it did. -/
def fireBeginsUptoRow : OpenClaim := { program := "ytnkmiigjfmalmaa", sum := "345ad92f01532e6a3bb5ede1d69714e645775ac988348c8a5d63aa0e57b09623", func := "gambit/gambitlaw10.FireBegins", spec := "fireBegins", apart := false, narrowed := true }
def FireBeginsUptoSaid : Prop := fireBeginsUptoRow.holds Try.pinned (OpenSpec.upto fireBeginsSpec)

/-- 'gambitlaw13.GoldBegins', WHERE WHAT IT READS IS OF BULK AT MOST 1048576: true; the input reads as it did. -/
def goldBeginsUptoRow : OpenClaim := { program := "ytnkmiigjfmalmaa", sum := "345ad92f01532e6a3bb5ede1d69714e645775ac988348c8a5d63aa0e57b09623", func := "gambit/gambitlaw13.GoldBegins", spec := "goldBegins", apart := false, narrowed := true }
def GoldBeginsUptoSaid : Prop := goldBeginsUptoRow.holds Try.pinned (OpenSpec.upto goldBeginsSpec)

end Rows
end Go.Proofs.Ytnkmiigjfmalmaa
