/- The six cards of fire as data, and by runs of the executor: what List hands back; a new book; each card may be; a book that holds some of them takes one more. -/
import Derived.Test.YtfahpjgfcndefaaDoorChecked
import Derived.Test.YtfahpjgfcndefaaDoorSf
import Derived.Test.YtfahpjgfcndefaaDoorTm
namespace Go.Proofs.YtfahpjgfcndefaaDoor.fiFire
open Go.Sim
set_option maxRecDepth 100000

def t : List CD := [⟨[.string ⟨#[102, 105, 114, 101, 45, 98, 111, 108, 116]⟩, .int .u8 3, .int .u8 2, .int .i64 2, .int .i64 0, .int .i64 0, .int .u16 0, .bool false], 1, [.int .u8 1, .int .u8 1, .int .u8 3, .int .i64 3, .int .u8 0, .int .u8 0, .int .u8 0, .string ⟨#[]⟩]⟩,
  ⟨[.string ⟨#[101, 109, 98, 101, 114]⟩, .int .u8 3, .int .u8 1, .int .i64 0, .int .i64 1, .int .i64 1, .int .u16 1, .bool true], 0, []⟩,
  ⟨[.string ⟨#[115, 97, 108, 97, 109, 97, 110, 100, 101, 114]⟩, .int .u8 3, .int .u8 1, .int .i64 3, .int .i64 3, .int .i64 3, .int .u16 4, .bool false], 1, [.int .u8 4, .int .u8 9, .int .u8 4, .int .i64 1, .int .u8 0, .int .u8 0, .int .u8 4, .string ⟨#[]⟩]⟩,
  ⟨[.string ⟨#[102, 111, 114, 103, 101]⟩, .int .u8 3, .int .u8 3, .int .i64 4, .int .i64 0, .int .i64 0, .int .u16 0, .bool false], 2, [.int .u8 3, .int .u8 7, .int .u8 1, .int .i64 1, .int .u8 0, .int .u8 0, .int .u8 0, .string ⟨#[101, 109, 98, 101, 114]⟩, .int .u8 6, .int .u8 17, .int .u8 2, .int .i64 0, .int .u8 0, .int .u8 0, .int .u8 0, .string ⟨#[]⟩]⟩,
  ⟨[.string ⟨#[119, 105, 108, 100, 45, 102, 105, 114, 101]⟩, .int .u8 3, .int .u8 2, .int .i64 6, .int .i64 0, .int .i64 0, .int .u16 0, .bool false], 2, [.int .u8 1, .int .u8 1, .int .u8 7, .int .i64 2, .int .u8 0, .int .u8 0, .int .u8 0, .string ⟨#[]⟩, .int .u8 1, .int .u8 6, .int .u8 10, .int .i64 0, .int .u8 0, .int .u8 2, .int .u8 0, .string ⟨#[]⟩]⟩,
  ⟨[.string ⟨#[112, 104, 111, 101, 110, 105, 120]⟩, .int .u8 3, .int .u8 1, .int .i64 5, .int .i64 4, .int .i64 2, .int .u16 1, .bool false], 2, [.int .u8 2, .int .u8 7, .int .u8 1, .int .i64 1, .int .u8 0, .int .u8 0, .int .u8 0, .string ⟨#[101, 109, 98, 101, 114]⟩, .int .u8 5, .int .u8 14, .int .u8 10, .int .i64 1, .int .u8 0, .int .u8 2, .int .u8 0, .string ⟨#[]⟩]⟩]
def order : List Nat := [1, 0, 3, 5, 2, 4]
def nps (i : Nat) : Nat := (cdAt t i).np
noncomputable def H : CallT := hookPure 129 trimA
theorem H_ok : CallOK Tryd.prog 0 H := hookPure_ok trimBody trimA_ok
def rL (n : Nat) : Nat := (([217, 217, 441, 447, 667, 888, 891] : List Nat)[n]?).getD 0
def hpC : List (Nat × KB) := [(6, { cells := idx 0 ((List.range 6).map fun j => cardV (cdAt t j) j (nps j)).flatten, size := 54, elem := 32, es := 9 })]
theorem listB : callV Tryd.prog H 0 60 0 23 [] (S0 0) (.slice (some ⟨6, 0, none⟩) 6 big) (fun _ => rL) 7 hpC (roQ t 6) = true := by kernel_rfl
theorem weakQ : renOK 0 (fun n => n) (mkSt 7 hpC (roQ t 6)) 6 [] (roQ t 6) = true := by kernel_rfl
theorem newB : callV Tryd.prog H 0 60 6 11 [] (stQ t 6) (.pointer (some ⟨6, 0, none⟩)) (fun _ n => if Nat.ble n 6 then n else 6) 13 (hpB t 6 72 [] false rest0) (roB t 6 []) = true := by kernel_rfl
theorem chkB : ((List.range 6).all fun i => callV Tryd.prog H 0 60 6 12 [.agg ⟨cardV (cdAt t i) i (nps i)⟩] (stQ t 6) (.int .i64 0) (fun _ n => n) 6 [] (roQ t 6)) = true := by kernel_rfl
noncomputable def addB (T i : Nat) : Bool := hasM T i || callV Tryd.prog H 0 60 6 13 [.pointer (some ⟨6, 0, none⟩), .agg ⟨cardV (cdAt t i) i (nps i)⟩] (stB t 6 72 (mem order T) false rest0) (.int .i64 0) (rhoC 6 i (mem order (T + 2 ^ i))) 13 (hpB t 6 72 (mem order (T + 2 ^ i)) false rest0) (roB t 6 (mem order (T + 2 ^ i)))
theorem back : ((List.range 64).all fun T => renOK 6 (fun n => n) (stB t 6 72 (mem order T) false rest0) 6 [] (roQ t 6)) = true := by kernel_rfl
theorem add0 : ((List.range 8).all fun T => (List.range 6).all fun i => addB (0 + T) i) = true := by kernel_rfl
theorem add1 : ((List.range 8).all fun T => (List.range 6).all fun i => addB (8 + T) i) = true := by kernel_rfl
theorem add2 : ((List.range 8).all fun T => (List.range 6).all fun i => addB (16 + T) i) = true := by kernel_rfl
theorem add3 : ((List.range 8).all fun T => (List.range 6).all fun i => addB (24 + T) i) = true := by kernel_rfl
theorem add4 : ((List.range 8).all fun T => (List.range 6).all fun i => addB (32 + T) i) = true := by kernel_rfl
theorem add5 : ((List.range 8).all fun T => (List.range 6).all fun i => addB (40 + T) i) = true := by kernel_rfl
theorem add6 : ((List.range 8).all fun T => (List.range 6).all fun i => addB (48 + T) i) = true := by kernel_rfl
theorem add7 : ((List.range 8).all fun T => (List.range 6).all fun i => addB (56 + T) i) = true := by kernel_rfl
end Go.Proofs.YtfahpjgfcndefaaDoor.fiFire
