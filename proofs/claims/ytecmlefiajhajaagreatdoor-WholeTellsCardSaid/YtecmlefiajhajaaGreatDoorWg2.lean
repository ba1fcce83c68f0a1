/- gambitref14.fill adds a suit to the book that holds some suits: runs of the executor. -/
import Derived.Test.YtecmlefiajhajaaGreatDoorWr
namespace Go.Proofs.YtecmlefiajhajaaGreatDoor.wr
open Go.Sim wh
set_option maxRecDepth 100000
theorem g31_5 : rfillB 31 5 = true := by kernel_rfl
end Go.Proofs.YtecmlefiajhajaaGreatDoor.wr
