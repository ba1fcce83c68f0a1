/- The book of fire with more blocks beside it. -/
import Derived.Test.YtfahpjgfcndefaaDoorFcFire
import Derived.Test.YtfahpjgfcndefaaDoorSt
import Derived.Test.YtfahpjgfcndefaaDoorKn
import Derived.WalkKit
import Derived.ProofKit
import Derived.Below
import Derived.RegionTactic
import Derived.BigRegion
import Derived.OwnWalk
namespace Go.Proofs.YtfahpjgfcndefaaDoor.fiFire
open Go.Sim Go.RowKit
set_option linter.unusedVariables false
set_option maxRecDepth 100000

/-- a book with more blocks beside it: X tells which block bears which name -/
def HoldsX (w : World) (Bar bk : Nat) (X : List (Nat × Nat)) (next : Nat) (ro : List (Nat × KB)) (l : List Nat) (shut : Bool) (rest : List (Nat × Value)) : Prop :=
  ∃ e k, RS 6 Bar e (mkSt next (hpB t 6 72 l shut rest) ro) w ∧ e 6 = some (bk, k) ∧ ∀ p ∈ X, p.1 < next ∧ ∃ k, e p.1 = some (p.2, k)
theorem Holds.x {w : World} {Bar bk : Nat} {q : Nat → Nat} {l : List Nat} {shut : Bool} {rest : List (Nat × Value)} (h : Holds w Bar bk q l shut rest) : HoldsX w Bar bk [] 13 (roB t 6 l) l shut rest := by
  obtain ⟨e, k, h1, h2, h3⟩ := h
  exact ⟨e, k, h1, h2, fun p hp => by cases hp⟩
theorem HoldsX.kept {w w' : World} {Bar bk next : Nat} {X : List (Nat × Nat)} {ro : List (Nat × KB)} {l : List Nat} {shut : Bool} {rest : List (Nat × Value)} (h : HoldsX w Bar bk X next ro l shut rest) (hb : Below w.heap.size w w') : HoldsX w' Bar bk X next ro l shut rest := by
  obtain ⟨e, k, h1, h2, h3⟩ := h
  exact ⟨e, k, (Cl.keep ⟨h1, Below.refl _ _⟩ h1 hb).1, h2, h3⟩
/-- one block more has a name -/
theorem HoldsX.named {w : World} {Bar bk next cb cap W0 : Nat} {X : List (Nat × Nat)} {ro : List (Nat × KB)} {l : List Nat} {shut : Bool} {rest : List (Nat × Value)} (h : HoldsX w Bar bk X next ro l shut rest) (h1 : cb < w.heap.size) (h2 : W0 ≤ cb) (h3 : W0 ≤ Bar) (h6 : 6 < next) :
    ∃ e k, RS 6 W0 e (mkSt (next + 1) (hpB t 6 72 l shut rest) ro) w ∧ e 6 = some (bk, k) ∧ e next = some (cb, cap) := by
  obtain ⟨e, k, hR, hb, -⟩ := h
  obtain ⟨e2, g1, g2, g3⟩ := (hR.rebar (NG2 := 6) (Bar2 := W0) (fun n b k hn hle => Nat.le_trans h3 (hR.bar n b k hn hle)) (Nat.le_trans h3 hR.room) hR.low).addName (b := cb) (kc := cap) h2 h1
  exact ⟨e2, k, g1, g2 _ _ hb, g3⟩
end Go.Proofs.YtfahpjgfcndefaaDoor.fiFire
