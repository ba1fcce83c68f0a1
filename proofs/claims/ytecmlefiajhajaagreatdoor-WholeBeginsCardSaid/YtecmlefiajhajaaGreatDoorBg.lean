/- What whole.Begin notes in a log. -/
import Derived.Test.YtecmlefiajhajaaGreatDoorBf
import Derived.Lib.Hide
set_option linter.unusedVariables false
namespace Go.Proofs.YtecmlefiajhajaaGreatDoor.bw
open Go.RowKit lg
def nums : List Int := [102, 103, 203, 104, 204, 108, 208, 308, 109, 209, 309, 110, 210, 310, 111, 211, 311, 112, 212, 312, 113, 213, 313, 114]
/-- what the first so many packages note -/
def upTo (k : Nat) : List Int := match k with | 0 => [] | 1 => [102] | 2 => [102, 103, 203] | 3 => [102, 103, 203, 104, 204] | 4 => [102, 103, 203, 104, 204, 108, 208, 308] | 5 => [102, 103, 203, 104, 204, 108, 208, 308, 109, 209, 309] | 6 => [102, 103, 203, 104, 204, 108, 208, 308, 109, 209, 309, 110, 210, 310] | 7 => [102, 103, 203, 104, 204, 108, 208, 308, 109, 209, 309, 110, 210, 310, 111, 211, 311] | 8 => [102, 103, 203, 104, 204, 108, 208, 308, 109, 209, 309, 110, 210, 310, 111, 211, 311, 112, 212, 312] | _ => [102, 103, 203, 104, 204, 108, 208, 308, 109, 209, 309, 110, 210, 310, 111, 211, 311, 112, 212, 312, 113, 213, 313]
theorem fx0 (w : World) : (Instr.index 171 (.agg #[.func (.func 105) #[] #[], .func (.func 106) #[] #[], .func (.func 107) #[] #[], .func (.func 108) #[] #[], .func (.func 109) #[] #[], .func (.func 110) #[] #[], .func (.func 111) #[] #[], .func (.func 112) #[] #[], .func (.func 113) #[] #[]]) (.int .i64 0)).run Tryz.prog w = .ok (.func (.func 105) #[] #[]) w := by kernel_rfl
theorem fx1 (w : World) : (Instr.index 171 (.agg #[.func (.func 105) #[] #[], .func (.func 106) #[] #[], .func (.func 107) #[] #[], .func (.func 108) #[] #[], .func (.func 109) #[] #[], .func (.func 110) #[] #[], .func (.func 111) #[] #[], .func (.func 112) #[] #[], .func (.func 113) #[] #[]]) (.int .i64 1)).run Tryz.prog w = .ok (.func (.func 106) #[] #[]) w := by kernel_rfl
theorem fx2 (w : World) : (Instr.index 171 (.agg #[.func (.func 105) #[] #[], .func (.func 106) #[] #[], .func (.func 107) #[] #[], .func (.func 108) #[] #[], .func (.func 109) #[] #[], .func (.func 110) #[] #[], .func (.func 111) #[] #[], .func (.func 112) #[] #[], .func (.func 113) #[] #[]]) (.int .i64 2)).run Tryz.prog w = .ok (.func (.func 107) #[] #[]) w := by kernel_rfl
theorem fx3 (w : World) : (Instr.index 171 (.agg #[.func (.func 105) #[] #[], .func (.func 106) #[] #[], .func (.func 107) #[] #[], .func (.func 108) #[] #[], .func (.func 109) #[] #[], .func (.func 110) #[] #[], .func (.func 111) #[] #[], .func (.func 112) #[] #[], .func (.func 113) #[] #[]]) (.int .i64 3)).run Tryz.prog w = .ok (.func (.func 108) #[] #[]) w := by kernel_rfl
theorem fx4 (w : World) : (Instr.index 171 (.agg #[.func (.func 105) #[] #[], .func (.func 106) #[] #[], .func (.func 107) #[] #[], .func (.func 108) #[] #[], .func (.func 109) #[] #[], .func (.func 110) #[] #[], .func (.func 111) #[] #[], .func (.func 112) #[] #[], .func (.func 113) #[] #[]]) (.int .i64 4)).run Tryz.prog w = .ok (.func (.func 109) #[] #[]) w := by kernel_rfl
theorem fx5 (w : World) : (Instr.index 171 (.agg #[.func (.func 105) #[] #[], .func (.func 106) #[] #[], .func (.func 107) #[] #[], .func (.func 108) #[] #[], .func (.func 109) #[] #[], .func (.func 110) #[] #[], .func (.func 111) #[] #[], .func (.func 112) #[] #[], .func (.func 113) #[] #[]]) (.int .i64 5)).run Tryz.prog w = .ok (.func (.func 110) #[] #[]) w := by kernel_rfl
theorem fx6 (w : World) : (Instr.index 171 (.agg #[.func (.func 105) #[] #[], .func (.func 106) #[] #[], .func (.func 107) #[] #[], .func (.func 108) #[] #[], .func (.func 109) #[] #[], .func (.func 110) #[] #[], .func (.func 111) #[] #[], .func (.func 112) #[] #[], .func (.func 113) #[] #[]]) (.int .i64 6)).run Tryz.prog w = .ok (.func (.func 111) #[] #[]) w := by kernel_rfl
theorem fx7 (w : World) : (Instr.index 171 (.agg #[.func (.func 105) #[] #[], .func (.func 106) #[] #[], .func (.func 107) #[] #[], .func (.func 108) #[] #[], .func (.func 109) #[] #[], .func (.func 110) #[] #[], .func (.func 111) #[] #[], .func (.func 112) #[] #[], .func (.func 113) #[] #[]]) (.int .i64 7)).run Tryz.prog w = .ok (.func (.func 112) #[] #[]) w := by kernel_rfl
theorem fx8 (w : World) : (Instr.index 171 (.agg #[.func (.func 105) #[] #[], .func (.func 106) #[] #[], .func (.func 107) #[] #[], .func (.func 108) #[] #[], .func (.func 109) #[] #[], .func (.func 110) #[] #[], .func (.func 111) #[] #[], .func (.func 112) #[] #[], .func (.func 113) #[] #[]]) (.int .i64 8)).run Tryz.prog w = .ok (.func (.func 113) #[] #[]) w := by kernel_rfl
theorem adds_app (shut : Bool) (L xs ys : List Int) : adds shut L (xs ++ ys) = adds shut (adds shut L xs) ys := by unfold adds; rw [List.foldl_append]
theorem adds_most (shut : Bool) : ∀ (xs L : List Int), (adds shut L xs).length ≤ L.length + xs.length
  | [], L => by simp [adds]
  | x :: xs, L => by
    have h := adds_most shut xs (add shut L x)
    have h2 : (add shut L x).length ≤ L.length + 1 := by unfold add; split <;> simp
    have h3 : adds shut L (x :: xs) = adds shut (add shut L x) xs := rfl
    rw [h3]
    simp only [List.length_cons]
    omega
theorem close_shut (lb kb : Nat) (L : List Int) (w : World) (h : IsLog w lb kb L true) :
    Calls Tryz.prog 51 #[.pointer (some ⟨lb, 0, none⟩)] w fun e w' => e = .returned (.tuple #[]) ∧ IsLog w' lb kb L true ∧ w.grownBy w' (some kb) := by
  have hlog := h.log
  have hn := h.n
  have hsh := h.sh
  have hfin : ∀ w' : World, w'.heap = w.heap → IsLog w' lb kb L true := fun w' e => h.heap e
  clear h
  go_enter Tryz.func51, Tryz.ntmps51
  go_wp2
  first | go_end0 | skip
  all_goals first | go_wp2 | skip
  all_goals first | go_end0 | skip
  all_goals exact ⟨rfl, hfin _ rfl, grown_heap (grown_refl w _) rfl rfl rfl rfl⟩
theorem close_no (p : Value) (w : World) (h : NoLog w p) :
    Calls Tryz.prog 51 #[p] w fun e w' => e = .returned (.tuple #[]) ∧ w' = w := by
  rcases h with rfl | ⟨lb, rfl, h⟩
  · go_enter Tryz.func51, Tryz.ntmps51
    go_wp2
    first | go_end0 | skip
    all_goals first | go_wp2 | skip
    all_goals first | go_end0 | skip
    all_goals exact ⟨rfl, rfl⟩
  · go_enter Tryz.func51, Tryz.ntmps51
    go_wp2
    first | go_end0 | skip
    all_goals first | go_wp2 | skip
    all_goals first | go_end0 | skip
    all_goals exact ⟨rfl, rfl⟩
theorem close_any (lb kb : Nat) (L : List Int) (shut : Bool) (w : World) (h : IsLog w lb kb L shut) :
    Calls Tryz.prog 51 #[.pointer (some ⟨lb, 0, none⟩)] w fun e w' => e = .returned (.tuple #[]) ∧ IsLog w' lb kb L true ∧ w.grownBy w' (some kb) := by
  cases shut with
  | false => exact close_open lb kb L w h
  | true => exact close_shut lb kb L w h

set_option maxRecDepth 100000 in
set_option maxHeartbeats 4000000 in
theorem begin_log (lb kb : Nat) (L : List Int) (shut : Bool) (w : World) (h : IsLog w lb kb L shut) :
    Calls Tryz.prog 53 #[.pointer (some ⟨lb, 0, none⟩)] w fun e w' => ∃ m : Nat, e = .returned (.int .i64 m) ∧ m + L.length = (adds shut L nums).length ∧ IsLog w' lb kb (adds shut L nums) true ∧ w.grownBy w' (some kb) := by
  go_enter Tryz.func53, Tryz.ntmps53
  go_wp2
  go_loopw [3, 7] (fun n i wr => ∃ k m : Nat, k ≤ 9 ∧ i = .int .i64 k ∧ n = .int .i64 m ∧ m ≤ 24 ∧ m + L.length = (adds shut L (upTo k)).length ∧ IsLog wr lb kb (adds shut L (upTo k)) shut ∧ w.grownBy wr (some kb)) (fun _ i _ => 9 - (intOf i).toNat)
  case atStart => exact ⟨0, 0, by omega, rfl, rfl, by omega, by simp [adds, upTo], by simpa [adds, upTo] using h, grown_refl w _⟩
  case round =>
    obtain ⟨k, m, hk, rfl, rfl, hm, hml, hlog, hgr⟩ := hrel
    have hkc : k = 0 ∨ k = 1 ∨ k = 2 ∨ k = 3 ∨ k = 4 ∨ k = 5 ∨ k = 6 ∨ k = 7 ∨ k = 8 ∨ k = 9 := by omega
    rcases hkc with rfl | rfl | rfl | rfl | rfl | rfl | rfl | rfl | rfl | rfl
    · have hix := fx0
      go_wp2_with fail
      refine (b105.begin_log lb kb _ _ _ hlog).mono ?_
      rintro e w2 ⟨m2, rfl, hm2, hlog2, hgr2⟩
      rw [show adds shut (adds shut L (upTo 0)) b105.nums = adds shut L (upTo 1) from (adds_app _ _ _ _).symm] at hm2 hlog2
      have hm22 : m + m2 ≤ 24 := by have := adds_most shut (upTo 1) L; have h5 : (upTo 1).length = 1 := rfl; omega
      have hm23 : m2 ≤ 24 := by omega
      go_wp2
      go_roundw
      case rel => exact ⟨1, m + m2, by omega, by go_num, by go_num, by omega, by omega, hlog2, grown_trans hgr hgr2⟩
      case measure => simp [intOf]
    · have hix := fx1
      go_wp2_with fail
      refine (b106.begin_log lb kb _ _ _ hlog).mono ?_
      rintro e w2 ⟨m2, rfl, hm2, hlog2, hgr2⟩
      rw [show adds shut (adds shut L (upTo 1)) b106.nums = adds shut L (upTo 2) from (adds_app _ _ _ _).symm] at hm2 hlog2
      have hm22 : m + m2 ≤ 24 := by have := adds_most shut (upTo 2) L; have h5 : (upTo 2).length = 3 := rfl; omega
      have hm23 : m2 ≤ 24 := by omega
      go_wp2
      go_roundw
      case rel => exact ⟨2, m + m2, by omega, by go_num, by go_num, by omega, by omega, hlog2, grown_trans hgr hgr2⟩
      case measure => simp [intOf]
    · have hix := fx2
      go_wp2_with fail
      refine (b107.begin_log lb kb _ _ _ hlog).mono ?_
      rintro e w2 ⟨m2, rfl, hm2, hlog2, hgr2⟩
      rw [show adds shut (adds shut L (upTo 2)) b107.nums = adds shut L (upTo 3) from (adds_app _ _ _ _).symm] at hm2 hlog2
      have hm22 : m + m2 ≤ 24 := by have := adds_most shut (upTo 3) L; have h5 : (upTo 3).length = 5 := rfl; omega
      have hm23 : m2 ≤ 24 := by omega
      go_wp2
      go_roundw
      case rel => exact ⟨3, m + m2, by omega, by go_num, by go_num, by omega, by omega, hlog2, grown_trans hgr hgr2⟩
      case measure => simp [intOf]
    · have hix := fx3
      go_wp2_with fail
      refine (b108.begin_log lb kb _ _ _ hlog).mono ?_
      rintro e w2 ⟨m2, rfl, hm2, hlog2, hgr2⟩
      rw [show adds shut (adds shut L (upTo 3)) b108.nums = adds shut L (upTo 4) from (adds_app _ _ _ _).symm] at hm2 hlog2
      have hm22 : m + m2 ≤ 24 := by have := adds_most shut (upTo 4) L; have h5 : (upTo 4).length = 8 := rfl; omega
      have hm23 : m2 ≤ 24 := by omega
      go_wp2
      go_roundw
      case rel => exact ⟨4, m + m2, by omega, by go_num, by go_num, by omega, by omega, hlog2, grown_trans hgr hgr2⟩
      case measure => simp [intOf]
    · have hix := fx4
      go_wp2_with fail
      refine (b109.begin_log lb kb _ _ _ hlog).mono ?_
      rintro e w2 ⟨m2, rfl, hm2, hlog2, hgr2⟩
      rw [show adds shut (adds shut L (upTo 4)) b109.nums = adds shut L (upTo 5) from (adds_app _ _ _ _).symm] at hm2 hlog2
      have hm22 : m + m2 ≤ 24 := by have := adds_most shut (upTo 5) L; have h5 : (upTo 5).length = 11 := rfl; omega
      have hm23 : m2 ≤ 24 := by omega
      go_wp2
      go_roundw
      case rel => exact ⟨5, m + m2, by omega, by go_num, by go_num, by omega, by omega, hlog2, grown_trans hgr hgr2⟩
      case measure => simp [intOf]
    · have hix := fx5
      go_wp2_with fail
      refine (b110.begin_log lb kb _ _ _ hlog).mono ?_
      rintro e w2 ⟨m2, rfl, hm2, hlog2, hgr2⟩
      rw [show adds shut (adds shut L (upTo 5)) b110.nums = adds shut L (upTo 6) from (adds_app _ _ _ _).symm] at hm2 hlog2
      have hm22 : m + m2 ≤ 24 := by have := adds_most shut (upTo 6) L; have h5 : (upTo 6).length = 14 := rfl; omega
      have hm23 : m2 ≤ 24 := by omega
      go_wp2
      go_roundw
      case rel => exact ⟨6, m + m2, by omega, by go_num, by go_num, by omega, by omega, hlog2, grown_trans hgr hgr2⟩
      case measure => simp [intOf]
    · have hix := fx6
      go_wp2_with fail
      refine (b111.begin_log lb kb _ _ _ hlog).mono ?_
      rintro e w2 ⟨m2, rfl, hm2, hlog2, hgr2⟩
      rw [show adds shut (adds shut L (upTo 6)) b111.nums = adds shut L (upTo 7) from (adds_app _ _ _ _).symm] at hm2 hlog2
      have hm22 : m + m2 ≤ 24 := by have := adds_most shut (upTo 7) L; have h5 : (upTo 7).length = 17 := rfl; omega
      have hm23 : m2 ≤ 24 := by omega
      go_wp2
      go_roundw
      case rel => exact ⟨7, m + m2, by omega, by go_num, by go_num, by omega, by omega, hlog2, grown_trans hgr hgr2⟩
      case measure => simp [intOf]
    · have hix := fx7
      go_wp2_with fail
      refine (b112.begin_log lb kb _ _ _ hlog).mono ?_
      rintro e w2 ⟨m2, rfl, hm2, hlog2, hgr2⟩
      rw [show adds shut (adds shut L (upTo 7)) b112.nums = adds shut L (upTo 8) from (adds_app _ _ _ _).symm] at hm2 hlog2
      have hm22 : m + m2 ≤ 24 := by have := adds_most shut (upTo 8) L; have h5 : (upTo 8).length = 20 := rfl; omega
      have hm23 : m2 ≤ 24 := by omega
      go_wp2
      go_roundw
      case rel => exact ⟨8, m + m2, by omega, by go_num, by go_num, by omega, by omega, hlog2, grown_trans hgr hgr2⟩
      case measure => simp [intOf]
    · have hix := fx8
      go_wp2_with fail
      refine (b113.begin_log lb kb _ _ _ hlog).mono ?_
      rintro e w2 ⟨m2, rfl, hm2, hlog2, hgr2⟩
      rw [show adds shut (adds shut L (upTo 8)) b113.nums = adds shut L (upTo 9) from (adds_app _ _ _ _).symm] at hm2 hlog2
      have hm22 : m + m2 ≤ 24 := by have := adds_most shut (upTo 9) L; have h5 : (upTo 9).length = 23 := rfl; omega
      have hm23 : m2 ≤ 24 := by omega
      go_wp2
      go_roundw
      case rel => exact ⟨9, m + m2, by omega, by go_num, by go_num, by omega, by omega, hlog2, grown_trans hgr hgr2⟩
      case measure => simp [intOf]
    · have hlen := adds_most shut (upTo 9) L
      have h25 : (upTo 9).length = 23 := rfl
      have hall : adds shut L nums = add shut (adds shut L (upTo 9)) 114 := by rw [show nums = upTo 9 ++ [114] from rfl, adds_app]; rfl
      by_cases hroom : shut = false ∧ (adds shut L (upTo 9)).length < 256
      · have hr := hroom.2
        rw [show add shut (adds shut L (upTo 9)) 114 = adds shut L (upTo 9) ++ [114] by unfold add; rw [if_pos hroom]] at hall
        obtain ⟨M, hM⟩ : ∃ M, adds shut L (upTo 9) = M := ⟨_, rfl⟩
        rw [hM] at hml hlog hlen hr hall
        obtain rfl := hroom.1
        have hallh := Lib.hid hall
        clear hroom hall hM
        have hge : decide ((0 : Int) ≤ (M.length : Int)) = true := decide_eq_true (by omega)
        go_wp2_with fail
        refine (note_open lb kb M 114 _ hlog hr).mono ?_
        rintro e w3 ⟨rfl, hlog3, hgr3⟩
        go_wp2_with fail
        refine (close_any lb kb _ _ _ hlog3).mono ?_
        rintro e w4 ⟨rfl, hlog4, hgr4⟩
        go_wp2
        go_ret
        exact ⟨m + 1, rfl, by rw [hallh.out]; simp; omega, by rw [hallh.out]; exact hlog4, grown_trans hgr (grown_trans hgr3 hgr4)⟩
      · rw [show add shut (adds shut L (upTo 9)) 114 = adds shut L (upTo 9) by unfold add; rw [if_neg hroom]] at hall
        obtain ⟨M, hM⟩ : ∃ M, adds shut L (upTo 9) = M := ⟨_, rfl⟩
        rw [hM] at hml hlog hlen hroom hall
        have hallh := Lib.hid hall
        clear hall hM
        go_wp2_with fail
        refine (note_off lb kb M shut 114 _ hlog hroom).mono ?_
        rintro e w3 ⟨rfl, h3⟩
        have h3 := h3.symm
        subst h3
        go_wp2_with fail
        refine (close_any lb kb _ _ _ hlog).mono ?_
        rintro e w4 ⟨rfl, hlog4, hgr4⟩
        go_wp2
        go_ret
        exact ⟨m, rfl, by rw [hallh.out]; exact hml, by rw [hallh.out]; exact hlog4, grown_trans hgr hgr4⟩
set_option maxRecDepth 100000 in
set_option maxHeartbeats 4000000 in
theorem begin_no (p : Value) (w : World) (h : NoLog w p) :
    Calls Tryz.prog 53 #[p] w fun e w' => e = .returned (.int .i64 0) ∧ w' = w := by
  go_enter Tryz.func53, Tryz.ntmps53
  go_wp2
  go_loop [3, 7] (fun n i => ∃ k : Nat, k ≤ 9 ∧ i = .int .i64 k ∧ n = .int .i64 0) (fun _ i => 9 - (intOf i).toNat)
  case atStart => exact ⟨0, by omega, rfl, rfl⟩
  case round =>
    obtain ⟨k, hk, rfl, rfl⟩ := hrel
    have hkc : k = 0 ∨ k = 1 ∨ k = 2 ∨ k = 3 ∨ k = 4 ∨ k = 5 ∨ k = 6 ∨ k = 7 ∨ k = 8 ∨ k = 9 := by omega
    rcases hkc with rfl | rfl | rfl | rfl | rfl | rfl | rfl | rfl | rfl | rfl
    · have hix := fx0
      go_wp2_with fail
      refine (b105.begin_no _ _ h).mono ?_
      rintro e w2 ⟨rfl, h2⟩
      have h2 := h2.symm
      subst h2
      go_wp2
      go_round
      case rel => exact ⟨1, by omega, by go_num, rfl⟩
      case measure => simp [intOf]
    · have hix := fx1
      go_wp2_with fail
      refine (b106.begin_no _ _ h).mono ?_
      rintro e w2 ⟨rfl, h2⟩
      have h2 := h2.symm
      subst h2
      go_wp2
      go_round
      case rel => exact ⟨2, by omega, by go_num, rfl⟩
      case measure => simp [intOf]
    · have hix := fx2
      go_wp2_with fail
      refine (b107.begin_no _ _ h).mono ?_
      rintro e w2 ⟨rfl, h2⟩
      have h2 := h2.symm
      subst h2
      go_wp2
      go_round
      case rel => exact ⟨3, by omega, by go_num, rfl⟩
      case measure => simp [intOf]
    · have hix := fx3
      go_wp2_with fail
      refine (b108.begin_no _ _ h).mono ?_
      rintro e w2 ⟨rfl, h2⟩
      have h2 := h2.symm
      subst h2
      go_wp2
      go_round
      case rel => exact ⟨4, by omega, by go_num, rfl⟩
      case measure => simp [intOf]
    · have hix := fx4
      go_wp2_with fail
      refine (b109.begin_no _ _ h).mono ?_
      rintro e w2 ⟨rfl, h2⟩
      have h2 := h2.symm
      subst h2
      go_wp2
      go_round
      case rel => exact ⟨5, by omega, by go_num, rfl⟩
      case measure => simp [intOf]
    · have hix := fx5
      go_wp2_with fail
      refine (b110.begin_no _ _ h).mono ?_
      rintro e w2 ⟨rfl, h2⟩
      have h2 := h2.symm
      subst h2
      go_wp2
      go_round
      case rel => exact ⟨6, by omega, by go_num, rfl⟩
      case measure => simp [intOf]
    · have hix := fx6
      go_wp2_with fail
      refine (b111.begin_no _ _ h).mono ?_
      rintro e w2 ⟨rfl, h2⟩
      have h2 := h2.symm
      subst h2
      go_wp2
      go_round
      case rel => exact ⟨7, by omega, by go_num, rfl⟩
      case measure => simp [intOf]
    · have hix := fx7
      go_wp2_with fail
      refine (b112.begin_no _ _ h).mono ?_
      rintro e w2 ⟨rfl, h2⟩
      have h2 := h2.symm
      subst h2
      go_wp2
      go_round
      case rel => exact ⟨8, by omega, by go_num, rfl⟩
      case measure => simp [intOf]
    · have hix := fx8
      go_wp2_with fail
      refine (b113.begin_no _ _ h).mono ?_
      rintro e w2 ⟨rfl, h2⟩
      have h2 := h2.symm
      subst h2
      go_wp2
      go_round
      case rel => exact ⟨9, by omega, by go_num, rfl⟩
      case measure => simp [intOf]
    · go_wp2_with fail
      refine (note_no _ _ _ h).mono ?_
      rintro e w3 ⟨rfl, h3⟩
      have h3 := h3.symm
      subst h3
      go_wp2_with fail
      refine (close_no _ _ h).mono ?_
      rintro e w3 ⟨rfl, h3⟩
      have h3 := h3.symm
      subst h3
      go_wp2
      go_ret
      exact ⟨rfl, rfl⟩
end Go.Proofs.YtecmlefiajhajaaGreatDoor.bw
