/-
  No cell of these rows narrows 'for every input' (looked for: loops, veiled, ifaces, maps, wideKeys, modest, calm, conditions, laid).
  DERIVED. THE GIVEN ROWS OF THIS SEAT. 8 by the template 'for every input the law returns true; each argument reads behind the call as it read before'; 0 by the template 'total and deterministic' (their statements: YtjhcpojfjmnllaaTotals.lean).
  GIVEN WITH THE SEED: the statements are not yours to turn. If you find one false, say at which input.
  Laid BY PROGRAM, IN A SANDBOX (cutbox-rows.mjs): the forced cells as the released guide's own fill.sh prints them over the translation d487adf0fae8ef63… (all of the seat's roots in one cut). By AI agents, Wed Nov 11 2026. No macro, syntax, notation, axiom, sorry.
-/
import Derived.Test.YtjhcpojfjmnllaaChecked
import GoSem.Claim
import GoSem.ClaimJoined
import GoSem.ClaimMapViews
import Derived.JoinedTies
import Derived.KernelRfl
namespace Go.Proofs.Ytjhcpojfjmnllaa
/- THE CELL 'sum', in the pinned program and in every row, IS THE sha256 OF THE DUMP (.gsa) THAT YtjhcpojfjmnllaaProg.lean LOADS. Nothing in Lean hashes anything: it is a label: what it is worth is what the hold of that sum in a sandbox is worth. -/
noncomputable def Try.pinned : Pinned := { name := "ytjhcpojfjmnllaa", sum := "d487adf0fae8ef6318dc58c4002c8e29a20d43a7db0ee8466e6ae8b9f5a166c3", checked := Try.checked }
namespace Rows
def none {H : Type} : Left H := { results := [], args := [] }

/-- 'gambitlaw02.RankTurns': WHATEVER THE INPUT: true; the input reads as it did. -/
def rankTurnsSpec : ChangeSpec := { name := "rankTurns", fn := fun _ => fun
  | [] => { results := [.lit (.bool true)], args := [] }
  | _ => none }
def rankTurnsRow : OpenClaim := { program := "ytjhcpojfjmnllaa", sum := "d487adf0fae8ef6318dc58c4002c8e29a20d43a7db0ee8466e6ae8b9f5a166c3", func := "gambit/gambitlaw02.RankTurns", spec := "rankTurns", apart := false }
def RankTurnsSaid : Prop := rankTurnsRow.holds Try.pinned (OpenSpec.ofChange rankTurnsSpec)

/-- ITS FALSE NEIGHBOUR: 'it returns false'. Refute it at one input. -/
def rankTurnsWrong : ChangeSpec := { name := "rankTurns", fn := fun _ => fun
  | [] => { results := [.lit (.bool false)], args := [] }
  | _ => none }
def RankTurnsWrongFalsely : Prop := rankTurnsRow.holds Try.pinned (OpenSpec.ofChange rankTurnsWrong)

/-- 'gambitlaw02.RankCompany': WHATEVER THE INPUT: true; the input reads as it did. -/
def rankCompanySpec : ChangeSpec := { name := "rankCompany", fn := fun _ => fun
  | [d1, d2] => { results := [.lit (.bool true)], args := [d1, d2] }
  | _ => none }
def rankCompanyRow : OpenClaim := { program := "ytjhcpojfjmnllaa", sum := "d487adf0fae8ef6318dc58c4002c8e29a20d43a7db0ee8466e6ae8b9f5a166c3", func := "gambit/gambitlaw02.RankCompany", spec := "rankCompany", recurses := true, apart := false }
def RankCompanySaid : Prop := rankCompanyRow.holds Try.pinned (OpenSpec.ofChange rankCompanySpec)

/-- ITS FALSE NEIGHBOUR: 'it returns false'. Refute it at one input. -/
def rankCompanyWrong : ChangeSpec := { name := "rankCompany", fn := fun _ => fun
  | [d1, d2] => { results := [.lit (.bool false)], args := [d1, d2] }
  | _ => none }
def RankCompanyWrongFalsely : Prop := rankCompanyRow.holds Try.pinned (OpenSpec.ofChange rankCompanyWrong)

/-- 'gambitlaw01.StartScript': WHATEVER THE INPUT: true; the input reads as it did. -/
def startScriptSpec : ChangeSpec := { name := "startScript", fn := fun _ => fun
  | [d] => { results := [.lit (.bool true)], args := [d] }
  | _ => none }
def startScriptRow : OpenClaim := { program := "ytjhcpojfjmnllaa", sum := "d487adf0fae8ef6318dc58c4002c8e29a20d43a7db0ee8466e6ae8b9f5a166c3", func := "gambit/gambitlaw01.StartScript", spec := "startScript", apart := false }
def StartScriptSaid : Prop := startScriptRow.holds Try.pinned (OpenSpec.ofChange startScriptSpec)

/-- ITS FALSE NEIGHBOUR: 'it returns false'. Refute it at one input. -/
def startScriptWrong : ChangeSpec := { name := "startScript", fn := fun _ => fun
  | [d] => { results := [.lit (.bool false)], args := [d] }
  | _ => none }
def StartScriptWrongFalsely : Prop := startScriptRow.holds Try.pinned (OpenSpec.ofChange startScriptWrong)

/-- 'gambitlaw01.StartNone': WHATEVER THE INPUT: true; the input reads as it did. -/
def startNoneSpec : ChangeSpec := { name := "startNone", fn := fun _ => fun
  | [d] => { results := [.lit (.bool true)], args := [d] }
  | _ => none }
def startNoneRow : OpenClaim := { program := "ytjhcpojfjmnllaa", sum := "d487adf0fae8ef6318dc58c4002c8e29a20d43a7db0ee8466e6ae8b9f5a166c3", func := "gambit/gambitlaw01.StartNone", spec := "startNone", apart := false }
def StartNoneSaid : Prop := startNoneRow.holds Try.pinned (OpenSpec.ofChange startNoneSpec)

/-- ITS FALSE NEIGHBOUR: 'it returns false'. Refute it at one input. -/
def startNoneWrong : ChangeSpec := { name := "startNone", fn := fun _ => fun
  | [d] => { results := [.lit (.bool false)], args := [d] }
  | _ => none }
def StartNoneWrongFalsely : Prop := startNoneRow.holds Try.pinned (OpenSpec.ofChange startNoneWrong)

/-- 'gambitlaw01.StartGrows': WHATEVER THE INPUT: true; the input reads as it did. -/
def startGrowsSpec : ChangeSpec := { name := "startGrows", fn := fun _ => fun
  | [d1, d2] => { results := [.lit (.bool true)], args := [d1, d2] }
  | _ => none }
def startGrowsRow : OpenClaim := { program := "ytjhcpojfjmnllaa", sum := "d487adf0fae8ef6318dc58c4002c8e29a20d43a7db0ee8466e6ae8b9f5a166c3", func := "gambit/gambitlaw01.StartGrows", spec := "startGrows", apart := false }
def StartGrowsSaid : Prop := startGrowsRow.holds Try.pinned (OpenSpec.ofChange startGrowsSpec)

/-- ITS FALSE NEIGHBOUR: 'it returns false'. Refute it at one input. -/
def startGrowsWrong : ChangeSpec := { name := "startGrows", fn := fun _ => fun
  | [d1, d2] => { results := [.lit (.bool false)], args := [d1, d2] }
  | _ => none }
def StartGrowsWrongFalsely : Prop := startGrowsRow.holds Try.pinned (OpenSpec.ofChange startGrowsWrong)

/-- 'gambitlaw01.StartKnown': WHATEVER THE INPUT: true; the input reads as it did. -/
def startKnownSpec : ChangeSpec := { name := "startKnown", fn := fun _ => fun
  | [] => { results := [.lit (.bool true)], args := [] }
  | _ => none }
def startKnownRow : OpenClaim := { program := "ytjhcpojfjmnllaa", sum := "d487adf0fae8ef6318dc58c4002c8e29a20d43a7db0ee8466e6ae8b9f5a166c3", func := "gambit/gambitlaw01.StartKnown", spec := "startKnown", apart := false }
def StartKnownSaid : Prop := startKnownRow.holds Try.pinned (OpenSpec.ofChange startKnownSpec)

/-- ITS FALSE NEIGHBOUR: 'it returns false'. Refute it at one input. -/
def startKnownWrong : ChangeSpec := { name := "startKnown", fn := fun _ => fun
  | [] => { results := [.lit (.bool false)], args := [] }
  | _ => none }
def StartKnownWrongFalsely : Prop := startKnownRow.holds Try.pinned (OpenSpec.ofChange startKnownWrong)

/-- 'gambitlaw02.RankNames': WHATEVER THE INPUT: true; the input reads as it did. -/
def rankNamesSpec : ChangeSpec := { name := "rankNames", fn := fun _ => fun
  | [] => { results := [.lit (.bool true)], args := [] }
  | _ => none }
def rankNamesRow : OpenClaim := { program := "ytjhcpojfjmnllaa", sum := "d487adf0fae8ef6318dc58c4002c8e29a20d43a7db0ee8466e6ae8b9f5a166c3", func := "gambit/gambitlaw02.RankNames", spec := "rankNames", apart := false }
def RankNamesSaid : Prop := rankNamesRow.holds Try.pinned (OpenSpec.ofChange rankNamesSpec)

/-- ITS FALSE NEIGHBOUR: 'it returns false'. Refute it at one input. -/
def rankNamesWrong : ChangeSpec := { name := "rankNames", fn := fun _ => fun
  | [] => { results := [.lit (.bool false)], args := [] }
  | _ => none }
def RankNamesWrongFalsely : Prop := rankNamesRow.holds Try.pinned (OpenSpec.ofChange rankNamesWrong)

/-- 'gambitlaw02.RankCalls': WHATEVER THE INPUT: true; the input reads as it did. -/
def rankCallsSpec : ChangeSpec := { name := "rankCalls", fn := fun _ => fun
  | [d1, d2, d3] => { results := [.lit (.bool true)], args := [d1, d2, d3] }
  | _ => none }
def rankCallsRow : OpenClaim := { program := "ytjhcpojfjmnllaa", sum := "d487adf0fae8ef6318dc58c4002c8e29a20d43a7db0ee8466e6ae8b9f5a166c3", func := "gambit/gambitlaw02.RankCalls", spec := "rankCalls", recurses := true, apart := false }
def RankCallsSaid : Prop := rankCallsRow.holds Try.pinned (OpenSpec.ofChange rankCallsSpec)

/-- ITS FALSE NEIGHBOUR: 'it returns false'. Refute it at one input. -/
def rankCallsWrong : ChangeSpec := { name := "rankCalls", fn := fun _ => fun
  | [d1, d2, d3] => { results := [.lit (.bool false)], args := [d1, d2, d3] }
  | _ => none }
def RankCallsWrongFalsely : Prop := rankCallsRow.holds Try.pinned (OpenSpec.ofChange rankCallsWrong)

/- THE SECOND FORM. 'bulk': how many values and letters a reading holds, each counted each time it is reached (what is shared counts as often as it is met; a slice's spare places count too). A statement '..UptoSaid' is the law's where the arguments, and the package variables that the reading takes, are together of bulk at most 1048576: NARROWER than '..Said'. Prove '..Said' where nothing that the law and all that it calls make is longer than what came in: it says more and counts as full. Else prove '..UptoSaid'. A law counts once. -/
mutual
def uptoBulk {H : Type} : DataW H → Nat
  | .lit (.string bytes) => bytes.length + 1
  | .lit _ => 1
  | .nil => 1
  | .ptr d => uptoBulk d + 1
  | .slice elems spare => uptoBulkAll elems + uptoBulkAll spare + 1
  | .agg parts => uptoBulkAll parts + 1
  | .iface _ d => uptoBulk d + 1
  | .map entries => uptoBulkEntries entries + 1
  | .held _ => 1
def uptoBulkAll {H : Type} : List (DataW H) → Nat
  | [] => 0
  | d :: r => uptoBulk d + uptoBulkAll r
def uptoBulkEntries {H : Type} : List (Lit × DataW H) → Nat
  | [] => 0
  | x :: r => uptoBulkEntry x + uptoBulkEntries r
def uptoBulkEntry {H : Type} : Lit × DataW H → Nat
  | (.string bytes, d) => bytes.length + uptoBulk d + 1
  | (_, d) => uptoBulk d + 1
 end
def uptoSmall : (H : Type) → List (DataW H) → Bool := fun _ ds => decide (uptoBulkAll ds ≤ 1048576)
def OpenSpec.upto (s : _root_.Go.ChangeSpec) : _root_.Go.OpenSpec := { _root_.Go.OpenSpec.ofChange s with cond := some uptoSmall }

/-- 'gambitlaw02.RankTurns', WHERE WHAT IT READS IS OF BULK AT MOST 1048576: true; the input reads as it did. -/
def rankTurnsUptoRow : OpenClaim := { program := "ytjhcpojfjmnllaa", sum := "d487adf0fae8ef6318dc58c4002c8e29a20d43a7db0ee8466e6ae8b9f5a166c3", func := "gambit/gambitlaw02.RankTurns", spec := "rankTurns", apart := false, narrowed := true }
def RankTurnsUptoSaid : Prop := rankTurnsUptoRow.holds Try.pinned (OpenSpec.upto rankTurnsSpec)

/-- 'gambitlaw02.RankCompany', WHERE WHAT IT READS IS OF BULK AT MOST 1048576: true; the input reads as it did. -/
def rankCompanyUptoRow : OpenClaim := { program := "ytjhcpojfjmnllaa", sum := "d487adf0fae8ef6318dc58c4002c8e29a20d43a7db0ee8466e6ae8b9f5a166c3", func := "gambit/gambitlaw02.RankCompany", spec := "rankCompany", recurses := true, apart := false, narrowed := true }
def RankCompanyUptoSaid : Prop := rankCompanyUptoRow.holds Try.pinned (OpenSpec.upto rankCompanySpec)

/-- 'gambitlaw01.StartScript', WHERE WHAT IT READS IS OF BULK AT MOST 1048576: true; the input reads as it did. -/
def startScriptUptoRow : OpenClaim := { program := "ytjhcpojfjmnllaa", sum := "d487adf0fae8ef6318dc58c4002c8e29a20d43a7db0ee8466e6ae8b9f5a166c3", func := "gambit/gambitlaw01.StartScript", spec := "startScript", apart := false, narrowed := true }
def StartScriptUptoSaid : Prop := startScriptUptoRow.holds Try.pinned (OpenSpec.upto startScriptSpec)

/-- 'gambitlaw01.StartNone', WHERE WHAT IT READS IS OF BULK AT MOST 1048576: true; the input reads as it did. -/
def startNoneUptoRow : OpenClaim := { program := "ytjhcpojfjmnllaa", sum := "d487adf0fae8ef6318dc58c4002c8e29a20d43a7db0ee8466e6ae8b9f5a166c3", func := "gambit/gambitlaw01.StartNone", spec := "startNone", apart := false, narrowed := true }
def StartNoneUptoSaid : Prop := startNoneUptoRow.holds Try.pinned (OpenSpec.upto startNoneSpec)

/-- 'gambitlaw01.StartGrows', WHERE WHAT IT READS IS OF BULK AT MOST 1048576: true; the input reads as it did. -/
def startGrowsUptoRow : OpenClaim := { program := "ytjhcpojfjmnllaa", sum := "d487adf0fae8ef6318dc58c4002c8e29a20d43a7db0ee8466e6ae8b9f5a166c3", func := "gambit/gambitlaw01.StartGrows", spec := "startGrows", apart := false, narrowed := true }
def StartGrowsUptoSaid : Prop := startGrowsUptoRow.holds Try.pinned (OpenSpec.upto startGrowsSpec)

/-- 'gambitlaw01.StartKnown', WHERE WHAT IT READS IS OF BULK AT MOST 1048576: true; the input reads as it did. -/
def startKnownUptoRow : OpenClaim := { program := "ytjhcpojfjmnllaa", sum := "d487adf0fae8ef6318dc58c4002c8e29a20d43a7db0ee8466e6ae8b9f5a166c3", func := "gambit/gambitlaw01.StartKnown", spec := "startKnown", apart := false, narrowed := true }
def StartKnownUptoSaid : Prop := startKnownUptoRow.holds Try.pinned (OpenSpec.upto startKnownSpec)

/-- 'gambitlaw02.RankNames', WHERE WHAT IT READS IS OF BULK AT MOST 1048576: true; the input reads as it did. -/
def rankNamesUptoRow : OpenClaim := { program := "ytjhcpojfjmnllaa", sum := "d487adf0fae8ef6318dc58c4002c8e29a20d43a7db0ee8466e6ae8b9f5a166c3", func := "gambit/gambitlaw02.RankNames", spec := "rankNames", apart := false, narrowed := true }
def RankNamesUptoSaid : Prop := rankNamesUptoRow.holds Try.pinned (OpenSpec.upto rankNamesSpec)

/-- 'gambitlaw02.RankCalls', WHERE WHAT IT READS IS OF BULK AT MOST 1048576: true; the input reads as it did. -/
def rankCallsUptoRow : OpenClaim := { program := "ytjhcpojfjmnllaa", sum := "d487adf0fae8ef6318dc58c4002c8e29a20d43a7db0ee8466e6ae8b9f5a166c3", func := "gambit/gambitlaw02.RankCalls", spec := "rankCalls", recurses := true, apart := false, narrowed := true }
def RankCallsUptoSaid : Prop := rankCallsUptoRow.holds Try.pinned (OpenSpec.upto rankCallsSpec)

end Rows
end Go.Proofs.Ytjhcpojfjmnllaa
