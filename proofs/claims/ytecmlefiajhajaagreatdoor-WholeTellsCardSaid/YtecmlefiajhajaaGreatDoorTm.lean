/- strings.Trim at an ASCII cutset over this translation, by the shelf's contract. -/
import Derived.Test.YtecmlefiajhajaaGreatDoorChecked
import Derived.Test.YtecmlefiajhajaaGreatDoorSim
import Derived.Ground.NamesProg
import Derived.Shelf.Lay
import Derived.Shelf.Strings.SlTrimAscii
namespace Go.Proofs
open Go.Shelf Go.RowKit

shelf_lay Lays.n160 Nm 160 at Tryz as Tryz.laysTrim

def YtecmlefiajhajaaGreatDoor.trimA : List Value → Option Value
  | [.string s, .string c] => if decide (s.data.toList.length < 100000) && decide (c.data.toList.length < 100000) && c.data.toList.all (fun b => decide (b.toNat < 128)) then some (.string ⟨(Lib.trimS s.data.toList c.data.toList).toArray⟩) else none
  | _ => none

theorem YtecmlefiajhajaaGreatDoor.trimA_ok : ∀ args v, YtecmlefiajhajaaGreatDoor.trimA args = some v → ∀ w, Calls Tryz.prog 261 args.toArray w fun e w' => e = .returned v ∧ Below w.heap.size w w' := by
  intro args v h w
  unfold YtecmlefiajhajaaGreatDoor.trimA at h
  split at h
  · rename_i s c
    split at h
    · rename_i hc
      cases h
      simp only [Bool.and_eq_true, decide_eq_true_eq, List.all_eq_true] at hc
      have hl : ∀ t : ByteArray, t.size = t.data.toList.length := fun t => (Array.length_toList).symm
      exact Any.strings_Trim_laid Tryz.laysTrim (by kernel_rfl) s c w (by rw [hl]; omega) (by rw [hl]; omega) (fun j b hj => hc.2 b (List.mem_of_getElem? hj))
    · cases h
  · cases h
theorem YtecmlefiajhajaaGreatDoor.trimBody : ∃ fn, Tryz.prog.funcs[261]? = some fn ∧ fn.body.isSome = true := ⟨_, Tryz.func261, rfl⟩
end Go.Proofs
namespace Go.Proofs.YtecmlefiajhajaaGreatDoor.nk
/-- no variable need be known -/
def gl : List (Nat × List Value) := []
theorem known {p : Prop} (w : World) (_ : p) : Sim.Known 0 gl w := ⟨Nat.zero_le _, fun q hq => (by cases hq)⟩
end Go.Proofs.YtecmlefiajhajaaGreatDoor.nk
