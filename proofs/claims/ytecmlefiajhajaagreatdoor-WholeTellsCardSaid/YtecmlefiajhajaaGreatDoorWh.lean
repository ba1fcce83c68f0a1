/- book.Same of two whole books, Seal of a sealed one: runs of the executor. -/
import Derived.Test.YtecmlefiajhajaaGreatDoorWd
namespace Go.Proofs.YtecmlefiajhajaaGreatDoor.ws
open Go.Sim wh wr
set_option maxRecDepth 100000
theorem bsameB : callV Tryz.prog H 1 60 76 46 [.pointer (some ⟨1, 0, none⟩), .pointer (some ⟨39, 0, none⟩)] (mkSt 76 [] (roA ++ roA2)) (.bool true) (fun _ n => n) 76 [] [] = true := by kernel_rfl
theorem shutB : callV Tryz.prog H 1 60 1 44 [.pointer (some ⟨1, 0, none⟩)] (stW 63 true) (.int .i64 7) (fun _ n => n) 38 (hpW 63 true) (roW 63) = true := by kernel_rfl
end Go.Proofs.YtecmlefiajhajaaGreatDoor.ws
