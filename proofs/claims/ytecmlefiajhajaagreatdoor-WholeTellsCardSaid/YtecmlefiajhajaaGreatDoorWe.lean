/- gambitlaw14.same of the whole book and the reference's: a run of the executor. -/
import Derived.Test.YtecmlefiajhajaaGreatDoorWd
namespace Go.Proofs.YtecmlefiajhajaaGreatDoor.ws
open Go.Sim wh wr
set_option maxRecDepth 100000
theorem sameB : callV Tryz.prog H 1 60 77 45 [.pointer (some ⟨1, 0, none⟩), .pointer (some ⟨39, 0, none⟩)] (mkSt 77 [] (roA ++ roF2)) (.bool true) (fun _ n => n) 77 [] [] = true := by kernel_rfl
end Go.Proofs.YtecmlefiajhajaaGreatDoor.ws
