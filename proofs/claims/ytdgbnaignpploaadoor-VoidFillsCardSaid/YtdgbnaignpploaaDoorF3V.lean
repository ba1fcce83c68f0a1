/- PRINTED BY f2gen.py: gambit/gambitlaw12.VoidNames is true: by one run of the executor. -/
import Derived.Test.YtdgbnaignpploaaDoorSim2
import Derived.Test.YtdgbnaignpploaaDoorF2V
import Derived.Test.YtdgbnaignpploaaDoorJ3
namespace Go.Proofs.YtdgbnaignpploaaDoor.fv
open Go.Sym
set_option linter.unusedVariables false
instance simVal : Sim.Val := ⟨fun _ => .nilFunc, fun _ => rfl, fun _ => rfl⟩
theorem simNum : Sim.NumOK Go.Proofs.Tryd.prog := Sim.numOK_of (by kernel_rfl)
theorem simMixed : Go.Proofs.Tryd.prog.follows .mixedOrders = true := by kernel_rfl
theorem ran : Sim.isTrue (Sim.callF Go.Proofs.Tryd.prog 0 60 0 41 [] (Sim.S0 0)) = true := by kernel_rfl
theorem d_names {Bar : Nat} (Y : St) : Does Go.Proofs.Tryd.prog Bar 41 [] Y (fun r X' => r = .bool true ∧ X' = Y) :=
  Does.of_below ⟨_, Go.Proofs.Tryd.func41, rfl⟩ (fun w => Sim.calls_true simNum simMixed ran w)
end Go.Proofs.YtdgbnaignpploaaDoor.fv
