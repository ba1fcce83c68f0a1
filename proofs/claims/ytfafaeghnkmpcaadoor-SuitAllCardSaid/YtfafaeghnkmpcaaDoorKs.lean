/- What the listed variable gambit/suit.beats holds, cell by cell, in a world where it reads as its datum. -/
import Derived.Test.YtfafaeghnkmpcaaDoorRows
import Derived.Test.YtfafaeghnkmpcaaDoorSim
import Derived.ProofKit
import Derived.OpenShut
import Derived.LaidMore
import Derived.Lay
import Derived.Stop.Joined
namespace Go.Proofs.YtfafaeghnkmpcaaDoor.ks
open Go.ChangeShapes Go.WideShapes Go.ChangeAt Go.RowKit

def beats : List Int := [0, 2, 4, 5, 3, 6, 1]
def gl : List (Nat × List Value) := [(0, [.int .u8 0, .int .u8 2, .int .u8 4, .int .u8 5, .int .u8 3, .int .u8 6, .int .u8 1])]
theorem gl_eq : gl = [(0, beats.map (Value.int .u8))] := rfl

theorem cells {W : World} {cs : List Value} {fuel base : Nat} {sp : Nat → Bool} {held : Bool} {enc : TypeId × Value → Unit} {q : List MemPlace} (hd : DataW.trod enc Tryd.prog W base sp held fuel 58 cs = some (Rows.laid_gambit_suit_beats, q)) (r : Nat) (hr : r < 7) :
    cs[r]? = (beats.map (Value.int .u8))[r]? := by
  obtain ⟨xs, m, _, ex, _, hl, hel⟩ := DataW.trod_array Tryd.underlying58 hd
  have c1 : Tryd.prog.cellsOf 22 = 1 := by kernel_rfl
  have hE := hel r hr
  rw [c1, Nat.mul_one, List.getElem?_eq_getElem (by omega)] at hE
  obtain ⟨s, e1, e2, _⟩ := DataW.trod_int Tryd.underlying22 hE
  have e3 : (xs.map (·.1)) = beats.map fun b => .lit (.int .u8 b) := (DataW.agg.inj (Prod.mk.inj ex).1).symm
  have hlen : beats.length = 7 := rfl
  have e4 : (xs.map (·.1))[r]? = (beats.map fun b => (DataW.lit (.int .u8 b) : DataW Unit))[r]? := by rw [e3]
  rw [List.getElem?_map, List.getElem?_map, List.getElem?_eq_getElem (by omega : r < xs.length), List.getElem?_eq_getElem (by omega : r < beats.length), e2] at e4
  simp only [Option.map_some, Option.some.injEq, DataW.lit.injEq, Lit.int.injEq, true_and] at e4
  rw [List.getElem?_map, List.getElem?_eq_getElem (by omega : r < beats.length), ← e4]
  have h0 : ((cs.drop r).take 1)[0]? = some (.int .u8 s) := by rw [e1]; rfl
  simpa using h0

theorem known_of {W : World} {cs : Array Value} (hc : ∀ i, W.cell? ⟨0, i, none⟩ = cs[i]?) (h : ∀ r, r < 7 → cs.toList[r]? = (beats.map (Value.int .u8))[r]?) : Sim.Known (0 + 1) gl W := by
  have hlen : (beats.map (Value.int .u8)).length = 7 := rfl
  have hcell : ∀ (i : Nat) (v : Value), (beats.map (Value.int .u8))[i]? = some v → W.cell? ⟨0, i, none⟩ = some v := fun i v hv => by
    have hi : i < 7 := by
      have := (List.getElem?_eq_some_iff.1 hv).1
      omega
    rw [hc, ← hv, ← h i hi]
    simp
  refine ⟨Nat.succ_le_of_lt (World.block_lt_of_cell? W ⟨0, 0, none⟩ (hcell 0 (.int .u8 0) rfl)), fun p hp => ?_⟩
  have hp' : p = (0, beats.map (Value.int .u8)) := by rw [gl_eq] at hp; simpa using hp
  subst hp'
  exact ⟨by decide, by decide, rfl, by simp [beats], hcell⟩

theorem known1 {W : World} (h : laidMetH Tryd.prog [("gambit/suit.beats", Rows.laid_gambit_suit_beats)] W) : Sim.Known (0 + 1) gl W := by
  rw [MakeChecks.laidMetH_plain _ _ _ (by kernel_rfl)] at h
  obtain ⟨ps, ⟨g1, t1, cs1, f1, p1, q1, hg1, ht1, hv1, hd1, _⟩, _, _⟩ := h
  obtain rfl := Option.some.inj ((show Tryd.prog.globalNamed "gambit/suit.beats" = some 0 by kernel_rfl).symm.trans hg1)
  obtain rfl := Option.some.inj ((show (Tryd.prog.globals[0]?).map (·.type) = some 58 by kernel_rfl).symm.trans ht1)
  exact known_of (World.var?_cell hg1 hv1) (cells hd1)
end Go.Proofs.YtfafaeghnkmpcaaDoor.ks
