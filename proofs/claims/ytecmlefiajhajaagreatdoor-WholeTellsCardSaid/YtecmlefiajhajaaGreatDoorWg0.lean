/- gambitref14.fill adds a suit to the book that holds some suits: runs of the executor. -/
import Derived.Test.YtecmlefiajhajaaGreatDoorWr
namespace Go.Proofs.YtecmlefiajhajaaGreatDoor.wr
open Go.Sim wh
set_option maxRecDepth 100000
theorem g0_0 : rfillB 0 0 = true := by kernel_rfl
theorem g1_1 : rfillB 1 1 = true := by kernel_rfl
theorem g3_2 : rfillB 3 2 = true := by kernel_rfl
end Go.Proofs.YtecmlefiajhajaaGreatDoor.wr
