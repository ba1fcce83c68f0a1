/- The whole book and the reference's as states that are read: side by side. -/
import Derived.Test.YtecmlefiajhajaaGreatDoorWr
import Derived.Test.YtecmlefiajhajaaGreatDoorMe
namespace Go.Proofs.YtecmlefiajhajaaGreatDoor.ws
open Go.Sim wh wr
set_option maxRecDepth 100000

def roA : List (Nat × KB) := (0, gKB) :: (1, bookKB t 2 129 (lW 63) true (restW 63)) :: roP t 1 (lW 63)
def roA2 : List (Nat × KB) := (39, bookKB t 40 129 (lW 63) true (restW 63)) :: roP t 39 (lW 63)
def roF2 : List (Nat × KB) := (39, { cells := (0, .bool true) :: (1, .bool true) :: (2, .slice (some ⟨40, 0, none⟩) 36 big) :: namesR 63, size := 32, elem := 131, es := 0 }) :: (40, { cells := bookGo t 41 (lW 63) 0, size := 324, elem := 0, es := 9 }) :: roP t 40 (lW 63)
def sh (n : Nat) : Nat := match n with | 0 => 0 | n + 1 => (n - 38) + 1
theorem rnA : renOK 1 (fun n => n) (stW 63 true) 38 [] roA = true := by kernel_rfl
theorem rnA2 : renOK 1 sh (stW 63 true) 76 [] roA2 = true := by kernel_rfl
theorem rnF2 : renOK 1 sh (mkSt 39 (hpR 63 true) (roC (lW 63))) 77 [] roF2 = true := by kernel_rfl
theorem ckA : chkRo 0 38 roA = true := by kernel_rfl
theorem ckA2 : chkRo 38 76 roA2 = true := by kernel_rfl
theorem ckF2 : chkRo 38 77 roF2 = true := by kernel_rfl
end Go.Proofs.YtecmlefiajhajaaGreatDoor.ws
