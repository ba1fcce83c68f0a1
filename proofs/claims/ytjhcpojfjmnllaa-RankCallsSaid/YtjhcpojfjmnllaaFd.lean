import Derived.Test.YtjhcpojfjmnllaaChecked
import Derived.WalkKit
import Derived.ProofKit
import Derived.Below
import Derived.RegionTactic
import Derived.BigRegion
namespace Go.Proofs.Ytjhcpojfjmnllaa.rankCalls
open Go.RowKit
set_option linter.unusedVariables false
set_option maxRecDepth 100000 in
set_option maxHeartbeats 1600000 in
theorem index_no (b : Nat) (strs : List ByteArray) (name : ByteArray) (w : World) (hs : strs.length ≤ 100) (hc : ∀ j, j < strs.length → w.cell? ⟨b, j, none⟩ = some (.string (strs.getD j ByteArray.empty))) (hno : ∀ j, j < strs.length → (name.toList == (strs.getD j ByteArray.empty).toList) = false) :
    Calls Try.prog 54 #[.slice (some ⟨b, 0, none⟩) strs.length strs.length, .string name] w fun e w' => e = .returned (.int .i64 (-1)) ∧ w' = w := by
  go_enter Try.func54, Try.ntmps54
  go_wp2
  go_loop [8] (fun i => ∃ k : Nat, k ≤ strs.length ∧ i = .int .i64 k) (fun i => strs.length - (intOf i).toNat)
  case atStart => exact ⟨0, Nat.zero_le _, rfl⟩
  case round =>
    obtain ⟨k, hk, rfl⟩ := hrel
    by_cases hkl : k < strs.length
    · have c1 := hc k hkl
      have hx := hno k hkl
      obtain ⟨y, hy⟩ : ∃ y, strs.getD k ByteArray.empty = y := ⟨_, rfl⟩
      rw [hy] at c1 hx
      clear hc hno
      go_wp2
      go_round
      case rel => exact ⟨k + 1, by omega, by go_num⟩
      case measure => simp [intOf]; omega
    · have : strs.length = k := by omega
      subst this
      go_wp2
      go_ret
      exact ⟨rfl, rfl⟩

def strs : List ByteArray := [⟨#[108, 111, 119]⟩, ⟨#[115, 116, 101, 112]⟩, ⟨#[109, 105, 100]⟩, ⟨#[104, 105, 103, 104]⟩, ⟨#[116, 111, 112]⟩]

def names (w : World) : World := w.alloc (.cells #[.string ⟨#[108, 111, 119]⟩, .string ⟨#[115, 116, 101, 112]⟩, .string ⟨#[109, 105, 100]⟩, .string ⟨#[104, 105, 103, 104]⟩, .string ⟨#[116, 111, 112]⟩] 9)
theorem names_at (w : World) : ∀ j, j < 5 → (names w).cell? ⟨w.heap.size, j, none⟩ = some (.string (strs.getD j ByteArray.empty)) := by
  intro j hj
  unfold names
  rw [World.cell?_alloc_new]
  have : j = 0 ∨ j = 1 ∨ j = 2 ∨ j = 3 ∨ j = 4 := by omega
  rcases this with rfl | rfl | rfl | rfl | rfl <;> rfl
theorem names_below (w : World) : Below w.heap.size w (names w) := (Below.refl _ w).alloc (Nat.le_refl _) _

set_option maxRecDepth 100000 in
set_option maxHeartbeats 1600000 in
theorem find_no (name : ByteArray) (w : World) (hno : ∀ j, j < 5 → (name.toList == (strs.getD j ByteArray.empty).toList) = false) :
    Calls Try.prog 30 #[.string name] w fun e w' => e = .returned (.tuple #[.int .i64 0, .bool false]) ∧ Below w.heap.size w w' := by
  have hix := index_no w.heap.size strs name (names w) (by decide) (names_at w) hno
  have hbel := names_below w
  change Calls Try.prog 54 #[.slice (some ⟨w.heap.size, 0, none⟩) 5 5, .string name] (names w) _ at hix
  unfold names at hix hbel
  go_enter Try.func30, Try.ntmps30
  go_wp2_with fail
  go_in
  go_wp2_with fail
  refine hix.mono ?_
  rintro e w1 ⟨rfl, h⟩
  have h := h.symm
  subst h
  clear hix
  go_wp2
  go_ret2
  exact ⟨rfl, hbel⟩

set_option maxRecDepth 100000 in
set_option maxHeartbeats 1600000 in
theorem refFind_no (name : ByteArray) (w : World) (hno : ∀ j, j < 5 → (name.toList == (strs.getD j ByteArray.empty).toList) = false) :
    Calls Try.prog 33 #[.string name] w fun e w' => e = .returned (.tuple #[.int .i64 0, .bool false]) ∧ Below w.heap.size w w' := by
  have hbel := names_below w
  have hc := names_at w
  obtain ⟨wn, hwn⟩ : ∃ x, x = names w := ⟨_, rfl⟩
  go_enter Try.func33, Try.ntmps33
  go_wp2_with fail
  go_in
  go_wp2_with fail
  change Code.wp _ _ _ _ (names w)
  rw [← hwn] at hc hbel ⊢
  clear hwn
  go_loop [5] (fun i => ∃ k : Nat, k ≤ 5 ∧ i = .int .i64 k) (fun i => 5 - (intOf i).toNat)
  case atStart => exact ⟨0, Nat.zero_le _, rfl⟩
  case round =>
    obtain ⟨k, hk, rfl⟩ := hrel
    by_cases hkl : k < 5
    · have c1 := hc k hkl
      have hx := hno k hkl
      obtain ⟨y, hy⟩ : ∃ y, strs.getD k ByteArray.empty = y := ⟨_, rfl⟩
      rw [hy] at c1 hx
      clear hc hno
      have hx2 : (y.toList == name.toList) = false := by
        have : (y.toList == name.toList) = (name.toList == y.toList) := BEq.comm
        rw [this]; exact hx
      go_wp2
      go_round
      case rel => exact ⟨k + 1, by omega, by go_num⟩
      case measure => simp [intOf]; omega
    · have : 5 = k := by omega
      subst this
      go_wp2
      go_ret2
      exact ⟨rfl, hbel⟩
end Go.Proofs.Ytjhcpojfjmnllaa.rankCalls
