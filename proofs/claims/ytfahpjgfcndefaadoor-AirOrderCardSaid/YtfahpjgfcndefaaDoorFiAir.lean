/- The six cards of air as data, and by runs of the executor: what List hands back; a new book; each card may be; a book that holds some of them takes one more. -/
import Derived.Test.YtfahpjgfcndefaaDoorChecked
import Derived.Test.YtfahpjgfcndefaaDoorSf
import Derived.Test.YtfahpjgfcndefaaDoorTm
namespace Go.Proofs.YtfahpjgfcndefaaDoor.fiAir
open Go.Sim
set_option maxRecDepth 100000

def t : List CD := [⟨[.string ⟨#[98, 114, 101, 101, 122, 101]⟩, .int .u8 1, .int .u8 2, .int .i64 2, .int .i64 0, .int .i64 0, .int .u16 0, .bool false], 2, [.int .u8 1, .int .u8 8, .int .u8 3, .int .i64 0, .int .u8 0, .int .u8 0, .int .u8 0, .string ⟨#[]⟩, .int .u8 1, .int .u8 3, .int .u8 1, .int .i64 1, .int .u8 0, .int .u8 0, .int .u8 0, .string ⟨#[]⟩]⟩,
  ⟨[.string ⟨#[119, 105, 115, 112]⟩, .int .u8 1, .int .u8 1, .int .i64 0, .int .i64 1, .int .i64 1, .int .u16 1, .bool true], 0, []⟩,
  ⟨[.string ⟨#[107, 105, 116, 101]⟩, .int .u8 1, .int .u8 1, .int .i64 2, .int .i64 2, .int .i64 1, .int .u16 1, .bool false], 1, [.int .u8 4, .int .u8 3, .int .u8 1, .int .i64 1, .int .u8 0, .int .u8 0, .int .u8 0, .string ⟨#[]⟩]⟩,
  ⟨[.string ⟨#[115, 119, 105, 102, 116, 45, 119, 105, 110, 103]⟩, .int .u8 1, .int .u8 1, .int .i64 3, .int .i64 2, .int .i64 3, .int .u16 128, .bool false], 1, [.int .u8 5, .int .u8 12, .int .u8 8, .int .i64 0, .int .u8 0, .int .u8 1, .int .u8 0, .string ⟨#[]⟩]⟩,
  ⟨[.string ⟨#[102, 108, 111, 99, 107]⟩, .int .u8 1, .int .u8 1, .int .i64 4, .int .i64 1, .int .i64 4, .int .u16 0, .bool false], 2, [.int .u8 1, .int .u8 7, .int .u8 1, .int .i64 2, .int .u8 0, .int .u8 0, .int .u8 0, .string ⟨#[119, 105, 115, 112]⟩, .int .u8 5, .int .u8 15, .int .u8 9, .int .i64 1, .int .u8 1, .int .u8 0, .int .u8 0, .string ⟨#[]⟩]⟩,
  ⟨[.string ⟨#[99, 97, 108, 109]⟩, .int .u8 1, .int .u8 3, .int .i64 3, .int .i64 0, .int .i64 0, .int .u16 0, .bool false], 2, [.int .u8 6, .int .u8 16, .int .u8 1, .int .i64 1, .int .u8 0, .int .u8 0, .int .u8 0, .string ⟨#[]⟩, .int .u8 3, .int .u8 2, .int .u8 1, .int .i64 1, .int .u8 0, .int .u8 0, .int .u8 0, .string ⟨#[]⟩]⟩]
def order : List Nat := [0, 5, 4, 2, 3, 1]
def nps (i : Nat) : Nat := (cdAt t i).np
noncomputable def H : CallT := hookPure 129 trimA
theorem H_ok : CallOK Tryd.prog 0 H := hookPure_ok trimBody trimA_ok
def rL (n : Nat) : Nat := (([432, 432, 439, 443, 447, 451, 453] : List Nat)[n]?).getD 0
def hpC : List (Nat × KB) := [(6, { cells := idx 0 ((List.range 6).map fun j => cardV (cdAt t j) j (nps j)).flatten, size := 54, elem := 32, es := 9 })]
theorem listB : callV Tryd.prog H 0 60 0 9 [] (S0 0) (.slice (some ⟨6, 0, none⟩) 6 big) (fun _ => rL) 7 hpC (roQ t 6) = true := by kernel_rfl
theorem weakQ : renOK 0 (fun n => n) (mkSt 7 hpC (roQ t 6)) 6 [] (roQ t 6) = true := by kernel_rfl
theorem newB : callV Tryd.prog H 0 60 6 11 [] (stQ t 6) (.pointer (some ⟨6, 0, none⟩)) (fun _ n => if Nat.ble n 6 then n else 6) 13 (hpB t 6 72 [] false rest0) (roB t 6 []) = true := by kernel_rfl
theorem chkB : ((List.range 6).all fun i => callV Tryd.prog H 0 60 6 12 [.agg ⟨cardV (cdAt t i) i (nps i)⟩] (stQ t 6) (.int .i64 0) (fun _ n => n) 6 [] (roQ t 6)) = true := by kernel_rfl
noncomputable def addB (T i : Nat) : Bool := hasM T i || callV Tryd.prog H 0 60 6 13 [.pointer (some ⟨6, 0, none⟩), .agg ⟨cardV (cdAt t i) i (nps i)⟩] (stB t 6 72 (mem order T) false rest0) (.int .i64 0) (rhoC 6 i (mem order (T + 2 ^ i))) 13 (hpB t 6 72 (mem order (T + 2 ^ i)) false rest0) (roB t 6 (mem order (T + 2 ^ i)))
theorem back : ((List.range 64).all fun T => renOK 6 (fun n => n) (stB t 6 72 (mem order T) false rest0) 6 [] (roQ t 6)) = true := by kernel_rfl
theorem add0 : ((List.range 8).all fun T => (List.range 6).all fun i => addB (0 + T) i) = true := by kernel_rfl
theorem add1 : ((List.range 8).all fun T => (List.range 6).all fun i => addB (8 + T) i) = true := by kernel_rfl
theorem add2 : ((List.range 8).all fun T => (List.range 6).all fun i => addB (16 + T) i) = true := by kernel_rfl
theorem add3 : ((List.range 8).all fun T => (List.range 6).all fun i => addB (24 + T) i) = true := by kernel_rfl
theorem add4 : ((List.range 8).all fun T => (List.range 6).all fun i => addB (32 + T) i) = true := by kernel_rfl
theorem add5 : ((List.range 8).all fun T => (List.range 6).all fun i => addB (40 + T) i) = true := by kernel_rfl
theorem add6 : ((List.range 8).all fun T => (List.range 6).all fun i => addB (48 + T) i) = true := by kernel_rfl
theorem add7 : ((List.range 8).all fun T => (List.range 6).all fun i => addB (56 + T) i) = true := by kernel_rfl
end Go.Proofs.YtfahpjgfcndefaaDoor.fiAir
