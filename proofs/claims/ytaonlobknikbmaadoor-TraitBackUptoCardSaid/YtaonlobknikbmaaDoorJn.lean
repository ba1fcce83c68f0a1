/- strings.Join over this translation, by the shelf's contract. -/
import Derived.Test.YtaonlobknikbmaaDoorChecked
import Derived.Test.YtaonlobknikbmaaDoorSim
import Derived.Ground.NamesProg
import Derived.Shelf.Lay
import Derived.Shelf.Strings.OnBuilder
namespace Go.Proofs
open Go.Shelf Go.RowKit

shelf_lay Lays.n156 Nm 156 at Tryd as Tryd.laysJoin
theorem Tryd.extraJoin : Builder.Extra Tryd.prog Tryd.laysJoin_ren where
  sizeBuilder := by kernel_rfl
  liesBuilder := by kernel_rfl
  t5 := by kernel_rfl
  a5 := fun w => by kernel_rfl
  z5 := fun w => by kernel_rfl
  v5 := fun w => by kernel_rfl
  infoByte := by kernel_rfl
  cellsByte := by kernel_rfl
  sizeByte := by kernel_rfl
  neB5 := by decide

theorem YtaonlobknikbmaaDoor.joinOK : Sim.JoinOK Tryd.prog 53 := fun bk o c xs sep w h1 h2 h3 h4 h5 => Any.strings_Join Tryd.laysJoin Tryd.extraJoin bk o c xs sep w h1 h2 h3 h4 h5
theorem YtaonlobknikbmaaDoor.joinBody : ∃ fn, Tryd.prog.funcs[53]? = some fn ∧ fn.body.isSome = true := ⟨_, Tryd.func53, rfl⟩
end Go.Proofs
