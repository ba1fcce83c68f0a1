import Derived.Test.YtjhcpojfjmnllaaRows
import Derived.Test.YtjhcpojfjmnllaaSim
namespace Go.Proofs.Ytjhcpojfjmnllaa.rankCalls
open Go.RowKit
def place : Int → Int × Bool
  | .ofNat 0 => (0, false)
  | .ofNat 1 => (0, false)
  | .ofNat 2 => (1, true)
  | .ofNat 3 => (0, true)
  | .ofNat 4 => (0, true)
  | .ofNat 5 => (0, true)
  | .ofNat 6 => (0, true)
  | .ofNat 7 => (2, true)
  | .ofNat 8 => (2, true)
  | .ofNat 9 => (2, true)
  | .ofNat 10 => (2, true)
  | .ofNat 11 => (3, true)
  | .ofNat 12 => (3, true)
  | .ofNat 13 => (3, true)
  | .ofNat 14 => (3, true)
  | .ofNat 15 => (3, true)
  | .ofNat 16 => (3, true)
  | .ofNat 17 => (3, true)
  | .ofNat (_ + 18) => (4, true)
  | .negSucc _ => (0, false)
def placed (x : Int) : Value := .tuple #[.int .i64 (place x).1, .bool (place x).2]
theorem place_ran : ∀ x : Int, (Sim.callF Try.prog 0 60 0 31 [.int .i64 x] (Sim.S0 0)).map Prod.fst = some (placed x)
  | .ofNat 0 => by kernel_rfl
  | .ofNat 1 => by kernel_rfl
  | .ofNat 2 => by kernel_rfl
  | .ofNat 3 => by kernel_rfl
  | .ofNat 4 => by kernel_rfl
  | .ofNat 5 => by kernel_rfl
  | .ofNat 6 => by kernel_rfl
  | .ofNat 7 => by kernel_rfl
  | .ofNat 8 => by kernel_rfl
  | .ofNat 9 => by kernel_rfl
  | .ofNat 10 => by kernel_rfl
  | .ofNat 11 => by kernel_rfl
  | .ofNat 12 => by kernel_rfl
  | .ofNat 13 => by kernel_rfl
  | .ofNat 14 => by kernel_rfl
  | .ofNat 15 => by kernel_rfl
  | .ofNat 16 => by kernel_rfl
  | .ofNat 17 => by kernel_rfl
  | .ofNat (m + 18) => by kernel_rfl
  | .negSucc m => by kernel_rfl
theorem refPlace_ran : ∀ x : Int, (Sim.callF Try.prog 0 60 0 34 [.int .i64 x] (Sim.S0 0)).map Prod.fst = some (placed x)
  | .ofNat 0 => by kernel_rfl
  | .ofNat 1 => by kernel_rfl
  | .ofNat 2 => by kernel_rfl
  | .ofNat 3 => by kernel_rfl
  | .ofNat 4 => by kernel_rfl
  | .ofNat 5 => by kernel_rfl
  | .ofNat 6 => by kernel_rfl
  | .ofNat 7 => by kernel_rfl
  | .ofNat 8 => by kernel_rfl
  | .ofNat 9 => by kernel_rfl
  | .ofNat 10 => by kernel_rfl
  | .ofNat 11 => by kernel_rfl
  | .ofNat 12 => by kernel_rfl
  | .ofNat 13 => by kernel_rfl
  | .ofNat 14 => by kernel_rfl
  | .ofNat 15 => by kernel_rfl
  | .ofNat 16 => by kernel_rfl
  | .ofNat 17 => by kernel_rfl
  | .ofNat (m + 18) => by kernel_rfl
  | .negSucc m => by kernel_rfl
theorem refSum_ran : (Sim.callF Try.prog 0 60 0 35 [] (Sim.S0 0)).map Prod.fst = some (.int .i64 41) := by kernel_rfl
end Go.Proofs.Ytjhcpojfjmnllaa.rankCalls
