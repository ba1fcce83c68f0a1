/- What the packages note in a log when they are begun, and what whole.Begin notes. -/
import Derived.Test.YtecmlefiajhajaaGreatDoorLg
import Derived.OpenShut
import Derived.ShutString
import Derived.Maps.AppendAt
set_option linter.unusedVariables false
namespace Go.Proofs.YtecmlefiajhajaaGreatDoor.b105
open Go.RowKit lg
def nums : List Int := [102]

theorem ix0 (w : World) : (Instr.index 183 (.agg #[.int .i64 102]) (.int .i64 ((0 : Nat) : Int))).run Tryz.prog w = .ok (.int .i64 102) w := by kernel_rfl
theorem ix (k : Nat) (hk : k < 1) (w : World) : (Instr.index 183 (.agg #[.int .i64 102]) (.int .i64 k)).run Tryz.prog w = .ok (.int .i64 (nums.getD k 0)) w :=
  match k, hk with
  | 0, _ => ix0 w

set_option maxRecDepth 100000 in
set_option maxHeartbeats 1600000 in
theorem begin_log (lb kb : Nat) (L : List Int) (shut : Bool) (w : World) (h : IsLog w lb kb L shut) :
    Calls Tryz.prog 105 #[.pointer (some ⟨lb, 0, none⟩)] w fun e w' => ∃ m : Nat, e = .returned (.int .i64 m) ∧ m + L.length = (adds shut L nums).length ∧ IsLog w' lb kb (adds shut L nums) shut ∧ w.grownBy w' (some kb) := by
  go_enter Tryz.func105, Tryz.ntmps105
  go_wp2
  go_loopw [3, 7] (fun n i wr => ∃ k m : Nat, k ≤ 1 ∧ m ≤ k ∧ i = .int .i64 k ∧ n = .int .i64 m ∧ m + L.length = (adds shut L (nums.take k)).length ∧ IsLog wr lb kb (adds shut L (nums.take k)) shut ∧ w.grownBy wr (some kb)) (fun _ i _ => 1 - (intOf i).toNat)
  case atStart => exact ⟨0, 0, by omega, by omega, rfl, rfl, by simp [adds], by simpa [adds] using h, grown_refl w _⟩
  case round =>
    obtain ⟨k, m, hk, hm, rfl, rfl, hml, hlog, hgr⟩ := hrel
    by_cases hkl : k < 1
    · have hix := ix k hkl
      have hstep := adds_step shut L nums k hkl
      by_cases hroom : shut = false ∧ (adds shut L (nums.take k)).length < 256
      · obtain ⟨rfl, hr⟩ := hroom
        rw [show add false (adds false L (nums.take k)) (nums.getD k 0) = adds false L (nums.take k) ++ [nums.getD k 0] by unfold add; rw [if_pos ⟨rfl, hr⟩]] at hstep
        have hsl : (adds false L (nums.take (k + 1))).length = (adds false L (nums.take k)).length + 1 := by rw [hstep]; simp
        go_wp2_with (go_at_call 50; refine (note_open lb kb _ _ _ hlog hr).mono ?_; rintro e w1 ⟨rfl, h1, h2⟩)
        go_roundw
        case rel => exact ⟨k + 1, m + 1, by omega, by omega, by go_num, by go_num, by omega, by rw [hstep]; exact h1, grown_trans hgr h2⟩
        case measure => simp [intOf]; omega
      · rw [show add shut (adds shut L (nums.take k)) (nums.getD k 0) = adds shut L (nums.take k) by unfold add; rw [if_neg hroom]] at hstep
        go_wp2_with (go_at_call 50; refine (note_off lb kb _ _ _ _ hlog hroom).mono ?_; rintro e w1 ⟨rfl, h2⟩; have h2 := h2.symm; subst h2)
        go_roundw
        case rel => exact ⟨k + 1, m, by omega, by omega, by go_num, rfl, by rw [hstep]; exact hml, by rw [hstep]; exact hlog, hgr⟩
        case measure => simp [intOf]; omega
    · have : k = 1 := by omega
      subst this
      go_wp2
      go_ret
      exact ⟨m, rfl, hml, hlog, hgr⟩

set_option maxRecDepth 100000 in
set_option maxHeartbeats 1600000 in
theorem begin_no (p : Value) (w : World) (h : NoLog w p) :
    Calls Tryz.prog 105 #[p] w fun e w' => e = .returned (.int .i64 0) ∧ w' = w := by
  go_enter Tryz.func105, Tryz.ntmps105
  go_wp2
  go_loop [3, 7] (fun n i => ∃ k : Nat, k ≤ 1 ∧ i = .int .i64 k ∧ n = .int .i64 0) (fun _ i => 1 - (intOf i).toNat)
  case atStart => exact ⟨0, by omega, rfl, rfl⟩
  case round =>
    obtain ⟨k, hk, rfl, rfl⟩ := hrel
    by_cases hkl : k < 1
    · have hix := ix k hkl
      go_wp2_with (go_at_call 50; refine (note_no _ _ _ h).mono ?_; rintro e w1 ⟨rfl, h2⟩; have h2 := h2.symm; subst h2)
      go_round
      case rel => exact ⟨k + 1, by omega, by go_num, rfl⟩
      case measure => simp [intOf]; omega
    · have : k = 1 := by omega
      subst this
      go_wp2
      go_ret
      exact ⟨rfl, rfl⟩

end Go.Proofs.YtecmlefiajhajaaGreatDoor.b105
namespace Go.Proofs.YtecmlefiajhajaaGreatDoor.b106
open Go.RowKit lg
def nums : List Int := [103, 203]

theorem ix0 (w : World) : (Instr.index 184 (.agg #[.int .i64 103, .int .i64 203]) (.int .i64 ((0 : Nat) : Int))).run Tryz.prog w = .ok (.int .i64 103) w := by kernel_rfl
theorem ix1 (w : World) : (Instr.index 184 (.agg #[.int .i64 103, .int .i64 203]) (.int .i64 ((1 : Nat) : Int))).run Tryz.prog w = .ok (.int .i64 203) w := by kernel_rfl
theorem ix (k : Nat) (hk : k < 2) (w : World) : (Instr.index 184 (.agg #[.int .i64 103, .int .i64 203]) (.int .i64 k)).run Tryz.prog w = .ok (.int .i64 (nums.getD k 0)) w :=
  match k, hk with
  | 0, _ => ix0 w
  | 1, _ => ix1 w

set_option maxRecDepth 100000 in
set_option maxHeartbeats 1600000 in
theorem begin_log (lb kb : Nat) (L : List Int) (shut : Bool) (w : World) (h : IsLog w lb kb L shut) :
    Calls Tryz.prog 106 #[.pointer (some ⟨lb, 0, none⟩)] w fun e w' => ∃ m : Nat, e = .returned (.int .i64 m) ∧ m + L.length = (adds shut L nums).length ∧ IsLog w' lb kb (adds shut L nums) shut ∧ w.grownBy w' (some kb) := by
  go_enter Tryz.func106, Tryz.ntmps106
  go_wp2
  go_loopw [3, 7] (fun n i wr => ∃ k m : Nat, k ≤ 2 ∧ m ≤ k ∧ i = .int .i64 k ∧ n = .int .i64 m ∧ m + L.length = (adds shut L (nums.take k)).length ∧ IsLog wr lb kb (adds shut L (nums.take k)) shut ∧ w.grownBy wr (some kb)) (fun _ i _ => 2 - (intOf i).toNat)
  case atStart => exact ⟨0, 0, by omega, by omega, rfl, rfl, by simp [adds], by simpa [adds] using h, grown_refl w _⟩
  case round =>
    obtain ⟨k, m, hk, hm, rfl, rfl, hml, hlog, hgr⟩ := hrel
    by_cases hkl : k < 2
    · have hix := ix k hkl
      have hstep := adds_step shut L nums k hkl
      by_cases hroom : shut = false ∧ (adds shut L (nums.take k)).length < 256
      · obtain ⟨rfl, hr⟩ := hroom
        rw [show add false (adds false L (nums.take k)) (nums.getD k 0) = adds false L (nums.take k) ++ [nums.getD k 0] by unfold add; rw [if_pos ⟨rfl, hr⟩]] at hstep
        have hsl : (adds false L (nums.take (k + 1))).length = (adds false L (nums.take k)).length + 1 := by rw [hstep]; simp
        go_wp2_with (go_at_call 50; refine (note_open lb kb _ _ _ hlog hr).mono ?_; rintro e w1 ⟨rfl, h1, h2⟩)
        go_roundw
        case rel => exact ⟨k + 1, m + 1, by omega, by omega, by go_num, by go_num, by omega, by rw [hstep]; exact h1, grown_trans hgr h2⟩
        case measure => simp [intOf]; omega
      · rw [show add shut (adds shut L (nums.take k)) (nums.getD k 0) = adds shut L (nums.take k) by unfold add; rw [if_neg hroom]] at hstep
        go_wp2_with (go_at_call 50; refine (note_off lb kb _ _ _ _ hlog hroom).mono ?_; rintro e w1 ⟨rfl, h2⟩; have h2 := h2.symm; subst h2)
        go_roundw
        case rel => exact ⟨k + 1, m, by omega, by omega, by go_num, rfl, by rw [hstep]; exact hml, by rw [hstep]; exact hlog, hgr⟩
        case measure => simp [intOf]; omega
    · have : k = 2 := by omega
      subst this
      go_wp2
      go_ret
      exact ⟨m, rfl, hml, hlog, hgr⟩

set_option maxRecDepth 100000 in
set_option maxHeartbeats 1600000 in
theorem begin_no (p : Value) (w : World) (h : NoLog w p) :
    Calls Tryz.prog 106 #[p] w fun e w' => e = .returned (.int .i64 0) ∧ w' = w := by
  go_enter Tryz.func106, Tryz.ntmps106
  go_wp2
  go_loop [3, 7] (fun n i => ∃ k : Nat, k ≤ 2 ∧ i = .int .i64 k ∧ n = .int .i64 0) (fun _ i => 2 - (intOf i).toNat)
  case atStart => exact ⟨0, by omega, rfl, rfl⟩
  case round =>
    obtain ⟨k, hk, rfl, rfl⟩ := hrel
    by_cases hkl : k < 2
    · have hix := ix k hkl
      go_wp2_with (go_at_call 50; refine (note_no _ _ _ h).mono ?_; rintro e w1 ⟨rfl, h2⟩; have h2 := h2.symm; subst h2)
      go_round
      case rel => exact ⟨k + 1, by omega, by go_num, rfl⟩
      case measure => simp [intOf]; omega
    · have : k = 2 := by omega
      subst this
      go_wp2
      go_ret
      exact ⟨rfl, rfl⟩

end Go.Proofs.YtecmlefiajhajaaGreatDoor.b106
namespace Go.Proofs.YtecmlefiajhajaaGreatDoor.b107
open Go.RowKit lg
def nums : List Int := [104, 204]

theorem ix0 (w : World) : (Instr.index 184 (.agg #[.int .i64 104, .int .i64 204]) (.int .i64 ((0 : Nat) : Int))).run Tryz.prog w = .ok (.int .i64 104) w := by kernel_rfl
theorem ix1 (w : World) : (Instr.index 184 (.agg #[.int .i64 104, .int .i64 204]) (.int .i64 ((1 : Nat) : Int))).run Tryz.prog w = .ok (.int .i64 204) w := by kernel_rfl
theorem ix (k : Nat) (hk : k < 2) (w : World) : (Instr.index 184 (.agg #[.int .i64 104, .int .i64 204]) (.int .i64 k)).run Tryz.prog w = .ok (.int .i64 (nums.getD k 0)) w :=
  match k, hk with
  | 0, _ => ix0 w
  | 1, _ => ix1 w

set_option maxRecDepth 100000 in
set_option maxHeartbeats 1600000 in
theorem begin_log (lb kb : Nat) (L : List Int) (shut : Bool) (w : World) (h : IsLog w lb kb L shut) :
    Calls Tryz.prog 107 #[.pointer (some ⟨lb, 0, none⟩)] w fun e w' => ∃ m : Nat, e = .returned (.int .i64 m) ∧ m + L.length = (adds shut L nums).length ∧ IsLog w' lb kb (adds shut L nums) shut ∧ w.grownBy w' (some kb) := by
  go_enter Tryz.func107, Tryz.ntmps107
  go_wp2
  go_loopw [3, 7] (fun n i wr => ∃ k m : Nat, k ≤ 2 ∧ m ≤ k ∧ i = .int .i64 k ∧ n = .int .i64 m ∧ m + L.length = (adds shut L (nums.take k)).length ∧ IsLog wr lb kb (adds shut L (nums.take k)) shut ∧ w.grownBy wr (some kb)) (fun _ i _ => 2 - (intOf i).toNat)
  case atStart => exact ⟨0, 0, by omega, by omega, rfl, rfl, by simp [adds], by simpa [adds] using h, grown_refl w _⟩
  case round =>
    obtain ⟨k, m, hk, hm, rfl, rfl, hml, hlog, hgr⟩ := hrel
    by_cases hkl : k < 2
    · have hix := ix k hkl
      have hstep := adds_step shut L nums k hkl
      by_cases hroom : shut = false ∧ (adds shut L (nums.take k)).length < 256
      · obtain ⟨rfl, hr⟩ := hroom
        rw [show add false (adds false L (nums.take k)) (nums.getD k 0) = adds false L (nums.take k) ++ [nums.getD k 0] by unfold add; rw [if_pos ⟨rfl, hr⟩]] at hstep
        have hsl : (adds false L (nums.take (k + 1))).length = (adds false L (nums.take k)).length + 1 := by rw [hstep]; simp
        go_wp2_with (go_at_call 50; refine (note_open lb kb _ _ _ hlog hr).mono ?_; rintro e w1 ⟨rfl, h1, h2⟩)
        go_roundw
        case rel => exact ⟨k + 1, m + 1, by omega, by omega, by go_num, by go_num, by omega, by rw [hstep]; exact h1, grown_trans hgr h2⟩
        case measure => simp [intOf]; omega
      · rw [show add shut (adds shut L (nums.take k)) (nums.getD k 0) = adds shut L (nums.take k) by unfold add; rw [if_neg hroom]] at hstep
        go_wp2_with (go_at_call 50; refine (note_off lb kb _ _ _ _ hlog hroom).mono ?_; rintro e w1 ⟨rfl, h2⟩; have h2 := h2.symm; subst h2)
        go_roundw
        case rel => exact ⟨k + 1, m, by omega, by omega, by go_num, rfl, by rw [hstep]; exact hml, by rw [hstep]; exact hlog, hgr⟩
        case measure => simp [intOf]; omega
    · have : k = 2 := by omega
      subst this
      go_wp2
      go_ret
      exact ⟨m, rfl, hml, hlog, hgr⟩

set_option maxRecDepth 100000 in
set_option maxHeartbeats 1600000 in
theorem begin_no (p : Value) (w : World) (h : NoLog w p) :
    Calls Tryz.prog 107 #[p] w fun e w' => e = .returned (.int .i64 0) ∧ w' = w := by
  go_enter Tryz.func107, Tryz.ntmps107
  go_wp2
  go_loop [3, 7] (fun n i => ∃ k : Nat, k ≤ 2 ∧ i = .int .i64 k ∧ n = .int .i64 0) (fun _ i => 2 - (intOf i).toNat)
  case atStart => exact ⟨0, by omega, rfl, rfl⟩
  case round =>
    obtain ⟨k, hk, rfl, rfl⟩ := hrel
    by_cases hkl : k < 2
    · have hix := ix k hkl
      go_wp2_with (go_at_call 50; refine (note_no _ _ _ h).mono ?_; rintro e w1 ⟨rfl, h2⟩; have h2 := h2.symm; subst h2)
      go_round
      case rel => exact ⟨k + 1, by omega, by go_num, rfl⟩
      case measure => simp [intOf]; omega
    · have : k = 2 := by omega
      subst this
      go_wp2
      go_ret
      exact ⟨rfl, rfl⟩

end Go.Proofs.YtecmlefiajhajaaGreatDoor.b107
namespace Go.Proofs.YtecmlefiajhajaaGreatDoor.b108
open Go.RowKit lg
def nums : List Int := [108, 208, 308]

theorem ix0 (w : World) : (Instr.index 185 (.agg #[.int .i64 108, .int .i64 208, .int .i64 308]) (.int .i64 ((0 : Nat) : Int))).run Tryz.prog w = .ok (.int .i64 108) w := by kernel_rfl
theorem ix1 (w : World) : (Instr.index 185 (.agg #[.int .i64 108, .int .i64 208, .int .i64 308]) (.int .i64 ((1 : Nat) : Int))).run Tryz.prog w = .ok (.int .i64 208) w := by kernel_rfl
theorem ix2 (w : World) : (Instr.index 185 (.agg #[.int .i64 108, .int .i64 208, .int .i64 308]) (.int .i64 ((2 : Nat) : Int))).run Tryz.prog w = .ok (.int .i64 308) w := by kernel_rfl
theorem ix (k : Nat) (hk : k < 3) (w : World) : (Instr.index 185 (.agg #[.int .i64 108, .int .i64 208, .int .i64 308]) (.int .i64 k)).run Tryz.prog w = .ok (.int .i64 (nums.getD k 0)) w :=
  match k, hk with
  | 0, _ => ix0 w
  | 1, _ => ix1 w
  | 2, _ => ix2 w

set_option maxRecDepth 100000 in
set_option maxHeartbeats 1600000 in
theorem begin_log (lb kb : Nat) (L : List Int) (shut : Bool) (w : World) (h : IsLog w lb kb L shut) :
    Calls Tryz.prog 108 #[.pointer (some ⟨lb, 0, none⟩)] w fun e w' => ∃ m : Nat, e = .returned (.int .i64 m) ∧ m + L.length = (adds shut L nums).length ∧ IsLog w' lb kb (adds shut L nums) shut ∧ w.grownBy w' (some kb) := by
  go_enter Tryz.func108, Tryz.ntmps108
  go_wp2
  go_loopw [3, 7] (fun n i wr => ∃ k m : Nat, k ≤ 3 ∧ m ≤ k ∧ i = .int .i64 k ∧ n = .int .i64 m ∧ m + L.length = (adds shut L (nums.take k)).length ∧ IsLog wr lb kb (adds shut L (nums.take k)) shut ∧ w.grownBy wr (some kb)) (fun _ i _ => 3 - (intOf i).toNat)
  case atStart => exact ⟨0, 0, by omega, by omega, rfl, rfl, by simp [adds], by simpa [adds] using h, grown_refl w _⟩
  case round =>
    obtain ⟨k, m, hk, hm, rfl, rfl, hml, hlog, hgr⟩ := hrel
    by_cases hkl : k < 3
    · have hix := ix k hkl
      have hstep := adds_step shut L nums k hkl
      by_cases hroom : shut = false ∧ (adds shut L (nums.take k)).length < 256
      · obtain ⟨rfl, hr⟩ := hroom
        rw [show add false (adds false L (nums.take k)) (nums.getD k 0) = adds false L (nums.take k) ++ [nums.getD k 0] by unfold add; rw [if_pos ⟨rfl, hr⟩]] at hstep
        have hsl : (adds false L (nums.take (k + 1))).length = (adds false L (nums.take k)).length + 1 := by rw [hstep]; simp
        go_wp2_with (go_at_call 50; refine (note_open lb kb _ _ _ hlog hr).mono ?_; rintro e w1 ⟨rfl, h1, h2⟩)
        go_roundw
        case rel => exact ⟨k + 1, m + 1, by omega, by omega, by go_num, by go_num, by omega, by rw [hstep]; exact h1, grown_trans hgr h2⟩
        case measure => simp [intOf]; omega
      · rw [show add shut (adds shut L (nums.take k)) (nums.getD k 0) = adds shut L (nums.take k) by unfold add; rw [if_neg hroom]] at hstep
        go_wp2_with (go_at_call 50; refine (note_off lb kb _ _ _ _ hlog hroom).mono ?_; rintro e w1 ⟨rfl, h2⟩; have h2 := h2.symm; subst h2)
        go_roundw
        case rel => exact ⟨k + 1, m, by omega, by omega, by go_num, rfl, by rw [hstep]; exact hml, by rw [hstep]; exact hlog, hgr⟩
        case measure => simp [intOf]; omega
    · have : k = 3 := by omega
      subst this
      go_wp2
      go_ret
      exact ⟨m, rfl, hml, hlog, hgr⟩

set_option maxRecDepth 100000 in
set_option maxHeartbeats 1600000 in
theorem begin_no (p : Value) (w : World) (h : NoLog w p) :
    Calls Tryz.prog 108 #[p] w fun e w' => e = .returned (.int .i64 0) ∧ w' = w := by
  go_enter Tryz.func108, Tryz.ntmps108
  go_wp2
  go_loop [3, 7] (fun n i => ∃ k : Nat, k ≤ 3 ∧ i = .int .i64 k ∧ n = .int .i64 0) (fun _ i => 3 - (intOf i).toNat)
  case atStart => exact ⟨0, by omega, rfl, rfl⟩
  case round =>
    obtain ⟨k, hk, rfl, rfl⟩ := hrel
    by_cases hkl : k < 3
    · have hix := ix k hkl
      go_wp2_with (go_at_call 50; refine (note_no _ _ _ h).mono ?_; rintro e w1 ⟨rfl, h2⟩; have h2 := h2.symm; subst h2)
      go_round
      case rel => exact ⟨k + 1, by omega, by go_num, rfl⟩
      case measure => simp [intOf]; omega
    · have : k = 3 := by omega
      subst this
      go_wp2
      go_ret
      exact ⟨rfl, rfl⟩

end Go.Proofs.YtecmlefiajhajaaGreatDoor.b108
namespace Go.Proofs.YtecmlefiajhajaaGreatDoor.b109
open Go.RowKit lg
def nums : List Int := [109, 209, 309]

theorem ix0 (w : World) : (Instr.index 185 (.agg #[.int .i64 109, .int .i64 209, .int .i64 309]) (.int .i64 ((0 : Nat) : Int))).run Tryz.prog w = .ok (.int .i64 109) w := by kernel_rfl
theorem ix1 (w : World) : (Instr.index 185 (.agg #[.int .i64 109, .int .i64 209, .int .i64 309]) (.int .i64 ((1 : Nat) : Int))).run Tryz.prog w = .ok (.int .i64 209) w := by kernel_rfl
theorem ix2 (w : World) : (Instr.index 185 (.agg #[.int .i64 109, .int .i64 209, .int .i64 309]) (.int .i64 ((2 : Nat) : Int))).run Tryz.prog w = .ok (.int .i64 309) w := by kernel_rfl
theorem ix (k : Nat) (hk : k < 3) (w : World) : (Instr.index 185 (.agg #[.int .i64 109, .int .i64 209, .int .i64 309]) (.int .i64 k)).run Tryz.prog w = .ok (.int .i64 (nums.getD k 0)) w :=
  match k, hk with
  | 0, _ => ix0 w
  | 1, _ => ix1 w
  | 2, _ => ix2 w

set_option maxRecDepth 100000 in
set_option maxHeartbeats 1600000 in
theorem begin_log (lb kb : Nat) (L : List Int) (shut : Bool) (w : World) (h : IsLog w lb kb L shut) :
    Calls Tryz.prog 109 #[.pointer (some ⟨lb, 0, none⟩)] w fun e w' => ∃ m : Nat, e = .returned (.int .i64 m) ∧ m + L.length = (adds shut L nums).length ∧ IsLog w' lb kb (adds shut L nums) shut ∧ w.grownBy w' (some kb) := by
  go_enter Tryz.func109, Tryz.ntmps109
  go_wp2
  go_loopw [3, 7] (fun n i wr => ∃ k m : Nat, k ≤ 3 ∧ m ≤ k ∧ i = .int .i64 k ∧ n = .int .i64 m ∧ m + L.length = (adds shut L (nums.take k)).length ∧ IsLog wr lb kb (adds shut L (nums.take k)) shut ∧ w.grownBy wr (some kb)) (fun _ i _ => 3 - (intOf i).toNat)
  case atStart => exact ⟨0, 0, by omega, by omega, rfl, rfl, by simp [adds], by simpa [adds] using h, grown_refl w _⟩
  case round =>
    obtain ⟨k, m, hk, hm, rfl, rfl, hml, hlog, hgr⟩ := hrel
    by_cases hkl : k < 3
    · have hix := ix k hkl
      have hstep := adds_step shut L nums k hkl
      by_cases hroom : shut = false ∧ (adds shut L (nums.take k)).length < 256
      · obtain ⟨rfl, hr⟩ := hroom
        rw [show add false (adds false L (nums.take k)) (nums.getD k 0) = adds false L (nums.take k) ++ [nums.getD k 0] by unfold add; rw [if_pos ⟨rfl, hr⟩]] at hstep
        have hsl : (adds false L (nums.take (k + 1))).length = (adds false L (nums.take k)).length + 1 := by rw [hstep]; simp
        go_wp2_with (go_at_call 50; refine (note_open lb kb _ _ _ hlog hr).mono ?_; rintro e w1 ⟨rfl, h1, h2⟩)
        go_roundw
        case rel => exact ⟨k + 1, m + 1, by omega, by omega, by go_num, by go_num, by omega, by rw [hstep]; exact h1, grown_trans hgr h2⟩
        case measure => simp [intOf]; omega
      · rw [show add shut (adds shut L (nums.take k)) (nums.getD k 0) = adds shut L (nums.take k) by unfold add; rw [if_neg hroom]] at hstep
        go_wp2_with (go_at_call 50; refine (note_off lb kb _ _ _ _ hlog hroom).mono ?_; rintro e w1 ⟨rfl, h2⟩; have h2 := h2.symm; subst h2)
        go_roundw
        case rel => exact ⟨k + 1, m, by omega, by omega, by go_num, rfl, by rw [hstep]; exact hml, by rw [hstep]; exact hlog, hgr⟩
        case measure => simp [intOf]; omega
    · have : k = 3 := by omega
      subst this
      go_wp2
      go_ret
      exact ⟨m, rfl, hml, hlog, hgr⟩

set_option maxRecDepth 100000 in
set_option maxHeartbeats 1600000 in
theorem begin_no (p : Value) (w : World) (h : NoLog w p) :
    Calls Tryz.prog 109 #[p] w fun e w' => e = .returned (.int .i64 0) ∧ w' = w := by
  go_enter Tryz.func109, Tryz.ntmps109
  go_wp2
  go_loop [3, 7] (fun n i => ∃ k : Nat, k ≤ 3 ∧ i = .int .i64 k ∧ n = .int .i64 0) (fun _ i => 3 - (intOf i).toNat)
  case atStart => exact ⟨0, by omega, rfl, rfl⟩
  case round =>
    obtain ⟨k, hk, rfl, rfl⟩ := hrel
    by_cases hkl : k < 3
    · have hix := ix k hkl
      go_wp2_with (go_at_call 50; refine (note_no _ _ _ h).mono ?_; rintro e w1 ⟨rfl, h2⟩; have h2 := h2.symm; subst h2)
      go_round
      case rel => exact ⟨k + 1, by omega, by go_num, rfl⟩
      case measure => simp [intOf]; omega
    · have : k = 3 := by omega
      subst this
      go_wp2
      go_ret
      exact ⟨rfl, rfl⟩

end Go.Proofs.YtecmlefiajhajaaGreatDoor.b109
namespace Go.Proofs.YtecmlefiajhajaaGreatDoor.b110
open Go.RowKit lg
def nums : List Int := [110, 210, 310]

theorem ix0 (w : World) : (Instr.index 185 (.agg #[.int .i64 110, .int .i64 210, .int .i64 310]) (.int .i64 ((0 : Nat) : Int))).run Tryz.prog w = .ok (.int .i64 110) w := by kernel_rfl
theorem ix1 (w : World) : (Instr.index 185 (.agg #[.int .i64 110, .int .i64 210, .int .i64 310]) (.int .i64 ((1 : Nat) : Int))).run Tryz.prog w = .ok (.int .i64 210) w := by kernel_rfl
theorem ix2 (w : World) : (Instr.index 185 (.agg #[.int .i64 110, .int .i64 210, .int .i64 310]) (.int .i64 ((2 : Nat) : Int))).run Tryz.prog w = .ok (.int .i64 310) w := by kernel_rfl
theorem ix (k : Nat) (hk : k < 3) (w : World) : (Instr.index 185 (.agg #[.int .i64 110, .int .i64 210, .int .i64 310]) (.int .i64 k)).run Tryz.prog w = .ok (.int .i64 (nums.getD k 0)) w :=
  match k, hk with
  | 0, _ => ix0 w
  | 1, _ => ix1 w
  | 2, _ => ix2 w

set_option maxRecDepth 100000 in
set_option maxHeartbeats 1600000 in
theorem begin_log (lb kb : Nat) (L : List Int) (shut : Bool) (w : World) (h : IsLog w lb kb L shut) :
    Calls Tryz.prog 110 #[.pointer (some ⟨lb, 0, none⟩)] w fun e w' => ∃ m : Nat, e = .returned (.int .i64 m) ∧ m + L.length = (adds shut L nums).length ∧ IsLog w' lb kb (adds shut L nums) shut ∧ w.grownBy w' (some kb) := by
  go_enter Tryz.func110, Tryz.ntmps110
  go_wp2
  go_loopw [3, 7] (fun n i wr => ∃ k m : Nat, k ≤ 3 ∧ m ≤ k ∧ i = .int .i64 k ∧ n = .int .i64 m ∧ m + L.length = (adds shut L (nums.take k)).length ∧ IsLog wr lb kb (adds shut L (nums.take k)) shut ∧ w.grownBy wr (some kb)) (fun _ i _ => 3 - (intOf i).toNat)
  case atStart => exact ⟨0, 0, by omega, by omega, rfl, rfl, by simp [adds], by simpa [adds] using h, grown_refl w _⟩
  case round =>
    obtain ⟨k, m, hk, hm, rfl, rfl, hml, hlog, hgr⟩ := hrel
    by_cases hkl : k < 3
    · have hix := ix k hkl
      have hstep := adds_step shut L nums k hkl
      by_cases hroom : shut = false ∧ (adds shut L (nums.take k)).length < 256
      · obtain ⟨rfl, hr⟩ := hroom
        rw [show add false (adds false L (nums.take k)) (nums.getD k 0) = adds false L (nums.take k) ++ [nums.getD k 0] by unfold add; rw [if_pos ⟨rfl, hr⟩]] at hstep
        have hsl : (adds false L (nums.take (k + 1))).length = (adds false L (nums.take k)).length + 1 := by rw [hstep]; simp
        go_wp2_with (go_at_call 50; refine (note_open lb kb _ _ _ hlog hr).mono ?_; rintro e w1 ⟨rfl, h1, h2⟩)
        go_roundw
        case rel => exact ⟨k + 1, m + 1, by omega, by omega, by go_num, by go_num, by omega, by rw [hstep]; exact h1, grown_trans hgr h2⟩
        case measure => simp [intOf]; omega
      · rw [show add shut (adds shut L (nums.take k)) (nums.getD k 0) = adds shut L (nums.take k) by unfold add; rw [if_neg hroom]] at hstep
        go_wp2_with (go_at_call 50; refine (note_off lb kb _ _ _ _ hlog hroom).mono ?_; rintro e w1 ⟨rfl, h2⟩; have h2 := h2.symm; subst h2)
        go_roundw
        case rel => exact ⟨k + 1, m, by omega, by omega, by go_num, rfl, by rw [hstep]; exact hml, by rw [hstep]; exact hlog, hgr⟩
        case measure => simp [intOf]; omega
    · have : k = 3 := by omega
      subst this
      go_wp2
      go_ret
      exact ⟨m, rfl, hml, hlog, hgr⟩

set_option maxRecDepth 100000 in
set_option maxHeartbeats 1600000 in
theorem begin_no (p : Value) (w : World) (h : NoLog w p) :
    Calls Tryz.prog 110 #[p] w fun e w' => e = .returned (.int .i64 0) ∧ w' = w := by
  go_enter Tryz.func110, Tryz.ntmps110
  go_wp2
  go_loop [3, 7] (fun n i => ∃ k : Nat, k ≤ 3 ∧ i = .int .i64 k ∧ n = .int .i64 0) (fun _ i => 3 - (intOf i).toNat)
  case atStart => exact ⟨0, by omega, rfl, rfl⟩
  case round =>
    obtain ⟨k, hk, rfl, rfl⟩ := hrel
    by_cases hkl : k < 3
    · have hix := ix k hkl
      go_wp2_with (go_at_call 50; refine (note_no _ _ _ h).mono ?_; rintro e w1 ⟨rfl, h2⟩; have h2 := h2.symm; subst h2)
      go_round
      case rel => exact ⟨k + 1, by omega, by go_num, rfl⟩
      case measure => simp [intOf]; omega
    · have : k = 3 := by omega
      subst this
      go_wp2
      go_ret
      exact ⟨rfl, rfl⟩

end Go.Proofs.YtecmlefiajhajaaGreatDoor.b110
namespace Go.Proofs.YtecmlefiajhajaaGreatDoor.b111
open Go.RowKit lg
def nums : List Int := [111, 211, 311]

theorem ix0 (w : World) : (Instr.index 185 (.agg #[.int .i64 111, .int .i64 211, .int .i64 311]) (.int .i64 ((0 : Nat) : Int))).run Tryz.prog w = .ok (.int .i64 111) w := by kernel_rfl
theorem ix1 (w : World) : (Instr.index 185 (.agg #[.int .i64 111, .int .i64 211, .int .i64 311]) (.int .i64 ((1 : Nat) : Int))).run Tryz.prog w = .ok (.int .i64 211) w := by kernel_rfl
theorem ix2 (w : World) : (Instr.index 185 (.agg #[.int .i64 111, .int .i64 211, .int .i64 311]) (.int .i64 ((2 : Nat) : Int))).run Tryz.prog w = .ok (.int .i64 311) w := by kernel_rfl
theorem ix (k : Nat) (hk : k < 3) (w : World) : (Instr.index 185 (.agg #[.int .i64 111, .int .i64 211, .int .i64 311]) (.int .i64 k)).run Tryz.prog w = .ok (.int .i64 (nums.getD k 0)) w :=
  match k, hk with
  | 0, _ => ix0 w
  | 1, _ => ix1 w
  | 2, _ => ix2 w

set_option maxRecDepth 100000 in
set_option maxHeartbeats 1600000 in
theorem begin_log (lb kb : Nat) (L : List Int) (shut : Bool) (w : World) (h : IsLog w lb kb L shut) :
    Calls Tryz.prog 111 #[.pointer (some ⟨lb, 0, none⟩)] w fun e w' => ∃ m : Nat, e = .returned (.int .i64 m) ∧ m + L.length = (adds shut L nums).length ∧ IsLog w' lb kb (adds shut L nums) shut ∧ w.grownBy w' (some kb) := by
  go_enter Tryz.func111, Tryz.ntmps111
  go_wp2
  go_loopw [3, 7] (fun n i wr => ∃ k m : Nat, k ≤ 3 ∧ m ≤ k ∧ i = .int .i64 k ∧ n = .int .i64 m ∧ m + L.length = (adds shut L (nums.take k)).length ∧ IsLog wr lb kb (adds shut L (nums.take k)) shut ∧ w.grownBy wr (some kb)) (fun _ i _ => 3 - (intOf i).toNat)
  case atStart => exact ⟨0, 0, by omega, by omega, rfl, rfl, by simp [adds], by simpa [adds] using h, grown_refl w _⟩
  case round =>
    obtain ⟨k, m, hk, hm, rfl, rfl, hml, hlog, hgr⟩ := hrel
    by_cases hkl : k < 3
    · have hix := ix k hkl
      have hstep := adds_step shut L nums k hkl
      by_cases hroom : shut = false ∧ (adds shut L (nums.take k)).length < 256
      · obtain ⟨rfl, hr⟩ := hroom
        rw [show add false (adds false L (nums.take k)) (nums.getD k 0) = adds false L (nums.take k) ++ [nums.getD k 0] by unfold add; rw [if_pos ⟨rfl, hr⟩]] at hstep
        have hsl : (adds false L (nums.take (k + 1))).length = (adds false L (nums.take k)).length + 1 := by rw [hstep]; simp
        go_wp2_with (go_at_call 50; refine (note_open lb kb _ _ _ hlog hr).mono ?_; rintro e w1 ⟨rfl, h1, h2⟩)
        go_roundw
        case rel => exact ⟨k + 1, m + 1, by omega, by omega, by go_num, by go_num, by omega, by rw [hstep]; exact h1, grown_trans hgr h2⟩
        case measure => simp [intOf]; omega
      · rw [show add shut (adds shut L (nums.take k)) (nums.getD k 0) = adds shut L (nums.take k) by unfold add; rw [if_neg hroom]] at hstep
        go_wp2_with (go_at_call 50; refine (note_off lb kb _ _ _ _ hlog hroom).mono ?_; rintro e w1 ⟨rfl, h2⟩; have h2 := h2.symm; subst h2)
        go_roundw
        case rel => exact ⟨k + 1, m, by omega, by omega, by go_num, rfl, by rw [hstep]; exact hml, by rw [hstep]; exact hlog, hgr⟩
        case measure => simp [intOf]; omega
    · have : k = 3 := by omega
      subst this
      go_wp2
      go_ret
      exact ⟨m, rfl, hml, hlog, hgr⟩

set_option maxRecDepth 100000 in
set_option maxHeartbeats 1600000 in
theorem begin_no (p : Value) (w : World) (h : NoLog w p) :
    Calls Tryz.prog 111 #[p] w fun e w' => e = .returned (.int .i64 0) ∧ w' = w := by
  go_enter Tryz.func111, Tryz.ntmps111
  go_wp2
  go_loop [3, 7] (fun n i => ∃ k : Nat, k ≤ 3 ∧ i = .int .i64 k ∧ n = .int .i64 0) (fun _ i => 3 - (intOf i).toNat)
  case atStart => exact ⟨0, by omega, rfl, rfl⟩
  case round =>
    obtain ⟨k, hk, rfl, rfl⟩ := hrel
    by_cases hkl : k < 3
    · have hix := ix k hkl
      go_wp2_with (go_at_call 50; refine (note_no _ _ _ h).mono ?_; rintro e w1 ⟨rfl, h2⟩; have h2 := h2.symm; subst h2)
      go_round
      case rel => exact ⟨k + 1, by omega, by go_num, rfl⟩
      case measure => simp [intOf]; omega
    · have : k = 3 := by omega
      subst this
      go_wp2
      go_ret
      exact ⟨rfl, rfl⟩

end Go.Proofs.YtecmlefiajhajaaGreatDoor.b111
namespace Go.Proofs.YtecmlefiajhajaaGreatDoor.b112
open Go.RowKit lg
def nums : List Int := [112, 212, 312]

theorem ix0 (w : World) : (Instr.index 185 (.agg #[.int .i64 112, .int .i64 212, .int .i64 312]) (.int .i64 ((0 : Nat) : Int))).run Tryz.prog w = .ok (.int .i64 112) w := by kernel_rfl
theorem ix1 (w : World) : (Instr.index 185 (.agg #[.int .i64 112, .int .i64 212, .int .i64 312]) (.int .i64 ((1 : Nat) : Int))).run Tryz.prog w = .ok (.int .i64 212) w := by kernel_rfl
theorem ix2 (w : World) : (Instr.index 185 (.agg #[.int .i64 112, .int .i64 212, .int .i64 312]) (.int .i64 ((2 : Nat) : Int))).run Tryz.prog w = .ok (.int .i64 312) w := by kernel_rfl
theorem ix (k : Nat) (hk : k < 3) (w : World) : (Instr.index 185 (.agg #[.int .i64 112, .int .i64 212, .int .i64 312]) (.int .i64 k)).run Tryz.prog w = .ok (.int .i64 (nums.getD k 0)) w :=
  match k, hk with
  | 0, _ => ix0 w
  | 1, _ => ix1 w
  | 2, _ => ix2 w

set_option maxRecDepth 100000 in
set_option maxHeartbeats 1600000 in
theorem begin_log (lb kb : Nat) (L : List Int) (shut : Bool) (w : World) (h : IsLog w lb kb L shut) :
    Calls Tryz.prog 112 #[.pointer (some ⟨lb, 0, none⟩)] w fun e w' => ∃ m : Nat, e = .returned (.int .i64 m) ∧ m + L.length = (adds shut L nums).length ∧ IsLog w' lb kb (adds shut L nums) shut ∧ w.grownBy w' (some kb) := by
  go_enter Tryz.func112, Tryz.ntmps112
  go_wp2
  go_loopw [3, 7] (fun n i wr => ∃ k m : Nat, k ≤ 3 ∧ m ≤ k ∧ i = .int .i64 k ∧ n = .int .i64 m ∧ m + L.length = (adds shut L (nums.take k)).length ∧ IsLog wr lb kb (adds shut L (nums.take k)) shut ∧ w.grownBy wr (some kb)) (fun _ i _ => 3 - (intOf i).toNat)
  case atStart => exact ⟨0, 0, by omega, by omega, rfl, rfl, by simp [adds], by simpa [adds] using h, grown_refl w _⟩
  case round =>
    obtain ⟨k, m, hk, hm, rfl, rfl, hml, hlog, hgr⟩ := hrel
    by_cases hkl : k < 3
    · have hix := ix k hkl
      have hstep := adds_step shut L nums k hkl
      by_cases hroom : shut = false ∧ (adds shut L (nums.take k)).length < 256
      · obtain ⟨rfl, hr⟩ := hroom
        rw [show add false (adds false L (nums.take k)) (nums.getD k 0) = adds false L (nums.take k) ++ [nums.getD k 0] by unfold add; rw [if_pos ⟨rfl, hr⟩]] at hstep
        have hsl : (adds false L (nums.take (k + 1))).length = (adds false L (nums.take k)).length + 1 := by rw [hstep]; simp
        go_wp2_with (go_at_call 50; refine (note_open lb kb _ _ _ hlog hr).mono ?_; rintro e w1 ⟨rfl, h1, h2⟩)
        go_roundw
        case rel => exact ⟨k + 1, m + 1, by omega, by omega, by go_num, by go_num, by omega, by rw [hstep]; exact h1, grown_trans hgr h2⟩
        case measure => simp [intOf]; omega
      · rw [show add shut (adds shut L (nums.take k)) (nums.getD k 0) = adds shut L (nums.take k) by unfold add; rw [if_neg hroom]] at hstep
        go_wp2_with (go_at_call 50; refine (note_off lb kb _ _ _ _ hlog hroom).mono ?_; rintro e w1 ⟨rfl, h2⟩; have h2 := h2.symm; subst h2)
        go_roundw
        case rel => exact ⟨k + 1, m, by omega, by omega, by go_num, rfl, by rw [hstep]; exact hml, by rw [hstep]; exact hlog, hgr⟩
        case measure => simp [intOf]; omega
    · have : k = 3 := by omega
      subst this
      go_wp2
      go_ret
      exact ⟨m, rfl, hml, hlog, hgr⟩

set_option maxRecDepth 100000 in
set_option maxHeartbeats 1600000 in
theorem begin_no (p : Value) (w : World) (h : NoLog w p) :
    Calls Tryz.prog 112 #[p] w fun e w' => e = .returned (.int .i64 0) ∧ w' = w := by
  go_enter Tryz.func112, Tryz.ntmps112
  go_wp2
  go_loop [3, 7] (fun n i => ∃ k : Nat, k ≤ 3 ∧ i = .int .i64 k ∧ n = .int .i64 0) (fun _ i => 3 - (intOf i).toNat)
  case atStart => exact ⟨0, by omega, rfl, rfl⟩
  case round =>
    obtain ⟨k, hk, rfl, rfl⟩ := hrel
    by_cases hkl : k < 3
    · have hix := ix k hkl
      go_wp2_with (go_at_call 50; refine (note_no _ _ _ h).mono ?_; rintro e w1 ⟨rfl, h2⟩; have h2 := h2.symm; subst h2)
      go_round
      case rel => exact ⟨k + 1, by omega, by go_num, rfl⟩
      case measure => simp [intOf]; omega
    · have : k = 3 := by omega
      subst this
      go_wp2
      go_ret
      exact ⟨rfl, rfl⟩

end Go.Proofs.YtecmlefiajhajaaGreatDoor.b112
namespace Go.Proofs.YtecmlefiajhajaaGreatDoor.b113
open Go.RowKit lg
def nums : List Int := [113, 213, 313]

theorem ix0 (w : World) : (Instr.index 185 (.agg #[.int .i64 113, .int .i64 213, .int .i64 313]) (.int .i64 ((0 : Nat) : Int))).run Tryz.prog w = .ok (.int .i64 113) w := by kernel_rfl
theorem ix1 (w : World) : (Instr.index 185 (.agg #[.int .i64 113, .int .i64 213, .int .i64 313]) (.int .i64 ((1 : Nat) : Int))).run Tryz.prog w = .ok (.int .i64 213) w := by kernel_rfl
theorem ix2 (w : World) : (Instr.index 185 (.agg #[.int .i64 113, .int .i64 213, .int .i64 313]) (.int .i64 ((2 : Nat) : Int))).run Tryz.prog w = .ok (.int .i64 313) w := by kernel_rfl
theorem ix (k : Nat) (hk : k < 3) (w : World) : (Instr.index 185 (.agg #[.int .i64 113, .int .i64 213, .int .i64 313]) (.int .i64 k)).run Tryz.prog w = .ok (.int .i64 (nums.getD k 0)) w :=
  match k, hk with
  | 0, _ => ix0 w
  | 1, _ => ix1 w
  | 2, _ => ix2 w

set_option maxRecDepth 100000 in
set_option maxHeartbeats 1600000 in
theorem begin_log (lb kb : Nat) (L : List Int) (shut : Bool) (w : World) (h : IsLog w lb kb L shut) :
    Calls Tryz.prog 113 #[.pointer (some ⟨lb, 0, none⟩)] w fun e w' => ∃ m : Nat, e = .returned (.int .i64 m) ∧ m + L.length = (adds shut L nums).length ∧ IsLog w' lb kb (adds shut L nums) shut ∧ w.grownBy w' (some kb) := by
  go_enter Tryz.func113, Tryz.ntmps113
  go_wp2
  go_loopw [3, 7] (fun n i wr => ∃ k m : Nat, k ≤ 3 ∧ m ≤ k ∧ i = .int .i64 k ∧ n = .int .i64 m ∧ m + L.length = (adds shut L (nums.take k)).length ∧ IsLog wr lb kb (adds shut L (nums.take k)) shut ∧ w.grownBy wr (some kb)) (fun _ i _ => 3 - (intOf i).toNat)
  case atStart => exact ⟨0, 0, by omega, by omega, rfl, rfl, by simp [adds], by simpa [adds] using h, grown_refl w _⟩
  case round =>
    obtain ⟨k, m, hk, hm, rfl, rfl, hml, hlog, hgr⟩ := hrel
    by_cases hkl : k < 3
    · have hix := ix k hkl
      have hstep := adds_step shut L nums k hkl
      by_cases hroom : shut = false ∧ (adds shut L (nums.take k)).length < 256
      · obtain ⟨rfl, hr⟩ := hroom
        rw [show add false (adds false L (nums.take k)) (nums.getD k 0) = adds false L (nums.take k) ++ [nums.getD k 0] by unfold add; rw [if_pos ⟨rfl, hr⟩]] at hstep
        have hsl : (adds false L (nums.take (k + 1))).length = (adds false L (nums.take k)).length + 1 := by rw [hstep]; simp
        go_wp2_with (go_at_call 50; refine (note_open lb kb _ _ _ hlog hr).mono ?_; rintro e w1 ⟨rfl, h1, h2⟩)
        go_roundw
        case rel => exact ⟨k + 1, m + 1, by omega, by omega, by go_num, by go_num, by omega, by rw [hstep]; exact h1, grown_trans hgr h2⟩
        case measure => simp [intOf]; omega
      · rw [show add shut (adds shut L (nums.take k)) (nums.getD k 0) = adds shut L (nums.take k) by unfold add; rw [if_neg hroom]] at hstep
        go_wp2_with (go_at_call 50; refine (note_off lb kb _ _ _ _ hlog hroom).mono ?_; rintro e w1 ⟨rfl, h2⟩; have h2 := h2.symm; subst h2)
        go_roundw
        case rel => exact ⟨k + 1, m, by omega, by omega, by go_num, rfl, by rw [hstep]; exact hml, by rw [hstep]; exact hlog, hgr⟩
        case measure => simp [intOf]; omega
    · have : k = 3 := by omega
      subst this
      go_wp2
      go_ret
      exact ⟨m, rfl, hml, hlog, hgr⟩

set_option maxRecDepth 100000 in
set_option maxHeartbeats 1600000 in
theorem begin_no (p : Value) (w : World) (h : NoLog w p) :
    Calls Tryz.prog 113 #[p] w fun e w' => e = .returned (.int .i64 0) ∧ w' = w := by
  go_enter Tryz.func113, Tryz.ntmps113
  go_wp2
  go_loop [3, 7] (fun n i => ∃ k : Nat, k ≤ 3 ∧ i = .int .i64 k ∧ n = .int .i64 0) (fun _ i => 3 - (intOf i).toNat)
  case atStart => exact ⟨0, by omega, rfl, rfl⟩
  case round =>
    obtain ⟨k, hk, rfl, rfl⟩ := hrel
    by_cases hkl : k < 3
    · have hix := ix k hkl
      go_wp2_with (go_at_call 50; refine (note_no _ _ _ h).mono ?_; rintro e w1 ⟨rfl, h2⟩; have h2 := h2.symm; subst h2)
      go_round
      case rel => exact ⟨k + 1, by omega, by go_num, rfl⟩
      case measure => simp [intOf]; omega
    · have : k = 3 := by omega
      subst this
      go_wp2
      go_ret
      exact ⟨rfl, rfl⟩

end Go.Proofs.YtecmlefiajhajaaGreatDoor.b113
