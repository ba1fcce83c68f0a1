/- whole.fill adds a suit to the book that holds some suits: runs of the executor. -/
import Derived.Test.YtecmlefiajhajaaGreatDoorWt
namespace Go.Proofs.YtecmlefiajhajaaGreatDoor.wh
open Go.Sim
set_option maxRecDepth 100000
theorem f7_3 : fillB 7 3 = true := by kernel_rfl
theorem f15_4 : fillB 15 4 = true := by kernel_rfl
theorem f31_5 : fillB 31 5 = true := by kernel_rfl
end Go.Proofs.YtecmlefiajhajaaGreatDoor.wh
