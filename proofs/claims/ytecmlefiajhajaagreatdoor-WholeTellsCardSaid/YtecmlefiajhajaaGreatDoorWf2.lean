/- whole.fill adds a suit to the book that holds some suits: runs of the executor. -/
import Derived.Test.YtecmlefiajhajaaGreatDoorWt
namespace Go.Proofs.YtecmlefiajhajaaGreatDoor.wh
open Go.Sim
set_option maxRecDepth 100000
theorem f0_5 : fillB 0 5 = true := by kernel_rfl
theorem f32_4 : fillB 32 4 = true := by kernel_rfl
theorem f48_3 : fillB 48 3 = true := by kernel_rfl
end Go.Proofs.YtecmlefiajhajaaGreatDoor.wh
