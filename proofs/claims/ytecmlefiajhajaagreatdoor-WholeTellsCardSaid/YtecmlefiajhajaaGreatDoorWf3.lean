/- whole.fill adds a suit to the book that holds some suits: runs of the executor. -/
import Derived.Test.YtecmlefiajhajaaGreatDoorWt
namespace Go.Proofs.YtecmlefiajhajaaGreatDoor.wh
open Go.Sim
set_option maxRecDepth 100000
theorem f56_2 : fillB 56 2 = true := by kernel_rfl
theorem f60_1 : fillB 60 1 = true := by kernel_rfl
theorem f62_0 : fillB 62 0 = true := by kernel_rfl
end Go.Proofs.YtecmlefiajhajaaGreatDoor.wh
