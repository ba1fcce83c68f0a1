/- whole.fill adds a suit to the book that holds some suits: runs of the executor. -/
import Derived.Test.YtecmlefiajhajaaGreatDoorWt
namespace Go.Proofs.YtecmlefiajhajaaGreatDoor.wh
open Go.Sim
set_option maxRecDepth 100000
theorem f0_0 : fillB 0 0 = true := by kernel_rfl
theorem f1_1 : fillB 1 1 = true := by kernel_rfl
theorem f3_2 : fillB 3 2 = true := by kernel_rfl
end Go.Proofs.YtecmlefiajhajaaGreatDoor.wh
