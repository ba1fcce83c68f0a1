/- What the listed variable gambit/trait.names holds, cell by cell, in a world where it reads as its datum. -/
import Derived.Test.YtecmlefiajhajaaGreatDoorRows
import Derived.Test.YtecmlefiajhajaaGreatDoorSim
import Derived.ProofKit
import Derived.OpenShut
import Derived.LaidMore
import Derived.Lay
import Derived.Stop.Joined
namespace Go.Proofs.YtecmlefiajhajaaGreatDoor.kn
open Go.ChangeShapes Go.WideShapes Go.ChangeAt Go.RowKit

def names : List ByteArray := [⟨#[]⟩, ⟨#[102, 97, 115, 116]⟩, ⟨#[103, 117, 97, 114, 100]⟩, ⟨#[118, 101, 110, 111, 109]⟩, ⟨#[108, 111, 110, 101]⟩, ⟨#[100, 114, 97, 105, 110]⟩, ⟨#[109, 117, 116, 101]⟩, ⟨#[102, 105, 120, 101, 100]⟩, ⟨#[115, 119, 105, 102, 116]⟩]
def gl : List (Nat × List Value) := [(0, names.map .string)]

theorem bytes_eq {s t : ByteArray} (h : s.data.toList = t.data.toList) : s = t := by
  obtain ⟨⟨a⟩⟩ := s
  obtain ⟨⟨b⟩⟩ := t
  simp at h
  rw [h]

theorem cells {W : World} {cs : List Value} {fuel base : Nat} {sp : Nat → Bool} {held : Bool} {enc : TypeId × Value → Unit} {q : List MemPlace} (hd : DataW.trod enc Tryz.prog W base sp held fuel 126 cs = some (Rows.laid_gambit_trait_names, q)) (r : Nat) (hr : r < 9) :
    cs[r]? = (names.map Value.string)[r]? := by
  obtain ⟨xs, m, _, ex, _, hl, hel⟩ := DataW.trod_array Tryz.underlying126 hd
  have c9 : Tryz.prog.cellsOf 9 = 1 := by kernel_rfl
  have hE := hel r hr
  rw [c9, Nat.mul_one, List.getElem?_eq_getElem (by omega)] at hE
  obtain ⟨s, e1, e2, _⟩ := DataW.trod_string Tryz.underlying9 hE
  have e3 : (xs.map (·.1)) = names.map fun b => .lit (.string b.data.toList) := (DataW.agg.inj (Prod.mk.inj ex).1).symm
  have hlen : names.length = 9 := rfl
  have e4 : (xs.map (·.1))[r]? = (names.map fun b => (DataW.lit (.string b.data.toList) : DataW Unit))[r]? := by rw [e3]
  rw [List.getElem?_map, List.getElem?_map, List.getElem?_eq_getElem (by omega : r < xs.length), List.getElem?_eq_getElem (by omega : r < names.length), e2] at e4
  simp only [Option.map_some, Option.some.injEq, DataW.lit.injEq, Lit.string.injEq] at e4
  rw [List.getElem?_map, List.getElem?_eq_getElem (by omega : r < names.length), ← bytes_eq e4]
  have h0 : ((cs.drop r).take 1)[0]? = some (.string s) := by rw [e1]; rfl
  simpa using h0

theorem known_of {W : World} {cs : Array Value} (hc : ∀ i, W.cell? ⟨0, i, none⟩ = cs[i]?) (h : ∀ r, r < 9 → cs.toList[r]? = (names.map Value.string)[r]?) : Sim.Known (0 + 1) gl W := by
  have hlen : (names.map Value.string).length = 9 := rfl
  have hcell : ∀ (i : Nat) (v : Value), (names.map Value.string)[i]? = some v → W.cell? ⟨0, i, none⟩ = some v := fun i v hv => by
    have hi : i < 9 := by
      have := (List.getElem?_eq_some_iff.1 hv).1
      omega
    rw [hc, ← hv, ← h i hi]
    simp
  refine ⟨Nat.succ_le_of_lt (World.block_lt_of_cell? W ⟨0, 0, none⟩ (hcell 0 (.string ⟨#[]⟩) rfl)), fun p hp => ?_⟩
  have hp' : p = (0, names.map Value.string) := by simpa [gl] using hp
  subst hp'
  exact ⟨by decide, by decide, rfl, by simp [names], hcell⟩

/-- where the variable is listed second of three -/
theorem known3 {W : World} {x y : String × DataW Unit} (hx : x.2.handleName? = none) (hy : y.2.handleName? = none) (h : laidMetH Tryz.prog [x, ("gambit/trait.names", Rows.laid_gambit_trait_names), y] W) : Sim.Known (0 + 1) gl W := by
  have hz : (Rows.laid_gambit_trait_names (H := Unit)).handleName? = none := rfl
  have hf : ([x, ("gambit/trait.names", Rows.laid_gambit_trait_names), y].all fun x => x.2.handleName?.isNone) = true := by
    simp only [List.all_cons, hx, hy, hz, Option.isNone_none, List.all_nil, Bool.and_self]
  rw [MakeChecks.laidMetH_plain _ _ _ hf] at h
  obtain ⟨ps, ⟨g0, t0, cs0, f0, p0, q0, hg0, ht0, hv0, hd0, ⟨g1, t1, cs1, f1, p1, q1, hg1, ht1, hv1, hd1, _⟩, _⟩, _, _⟩ := h
  obtain rfl := Option.some.inj ((show Tryz.prog.globalNamed "gambit/trait.names" = some 0 by kernel_rfl).symm.trans hg1)
  obtain rfl := Option.some.inj ((show (Tryz.prog.globals[0]?).map (·.type) = some 126 by kernel_rfl).symm.trans ht1)
  exact known_of (World.var?_cell hg1 hv1) (cells hd1)

/-- where it is listed alone -/
theorem known1 {W : World} (h : laidMetH Tryz.prog [("gambit/trait.names", Rows.laid_gambit_trait_names)] W) : Sim.Known (0 + 1) gl W := by
  rw [MakeChecks.laidMetH_plain _ _ _ (by kernel_rfl)] at h
  obtain ⟨ps, ⟨g1, t1, cs1, f1, p1, q1, hg1, ht1, hv1, hd1, _⟩, _, _⟩ := h
  obtain rfl := Option.some.inj ((show Tryz.prog.globalNamed "gambit/trait.names" = some 0 by kernel_rfl).symm.trans hg1)
  obtain rfl := Option.some.inj ((show (Tryz.prog.globals[0]?).map (·.type) = some 126 by kernel_rfl).symm.trans ht1)
  exact known_of (World.var?_cell hg1 hv1) (cells hd1)
end Go.Proofs.YtecmlefiajhajaaGreatDoor.kn
