/- PRINTED BY f2gen.py: gambit/gambitlaw09.EarthNames is true: by one run of the executor. -/
import Derived.Test.YtdgbnaignpploaaDoorSim2
import Derived.Test.YtdgbnaignpploaaDoorF2E
import Derived.Test.YtdgbnaignpploaaDoorJ3
namespace Go.Proofs.YtdgbnaignpploaaDoor.fe
open Go.Sym
set_option linter.unusedVariables false
instance simVal : Sim.Val := ⟨fun _ => .nilFunc, fun _ => rfl, fun _ => rfl⟩
theorem simNum : Sim.NumOK Go.Proofs.Tryd.prog := Sim.numOK_of (by kernel_rfl)
theorem simMixed : Go.Proofs.Tryd.prog.follows .mixedOrders = true := by kernel_rfl
theorem ran : Sim.isTrue (Sim.callF Go.Proofs.Tryd.prog 0 60 0 36 [] (Sim.S0 0)) = true := by kernel_rfl
theorem d_names {Bar : Nat} (Y : St) : Does Go.Proofs.Tryd.prog Bar 36 [] Y (fun r X' => r = .bool true ∧ X' = Y) :=
  Does.of_below ⟨_, Go.Proofs.Tryd.func36, rfl⟩ (fun w => Sim.calls_true simNum simMixed ran w)
end Go.Proofs.YtdgbnaignpploaaDoor.fe
