/- gambitref14.fill adds a suit to the book that holds some suits: runs of the executor. -/
import Derived.Test.YtecmlefiajhajaaGreatDoorWr
namespace Go.Proofs.YtecmlefiajhajaaGreatDoor.wr
open Go.Sim wh
set_option maxRecDepth 100000
theorem g7_3 : rfillB 7 3 = true := by kernel_rfl
theorem g15_4 : rfillB 15 4 = true := by kernel_rfl
end Go.Proofs.YtecmlefiajhajaaGreatDoor.wr
