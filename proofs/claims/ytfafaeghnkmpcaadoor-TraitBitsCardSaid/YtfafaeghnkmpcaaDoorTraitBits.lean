/- The law TraitBits: for every input the call returns true, in whatever memory. No condition but the listed variables. -/
import Derived.Test.YtfafaeghnkmpcaaDoorRows
import Derived.Test.YtfafaeghnkmpcaaDoorCards
import Derived.Test.YtfafaeghnkmpcaaDoorTie
import Derived.Test.YtfafaeghnkmpcaaDoorSim
import Derived.Test.YtfafaeghnkmpcaaDoorKn
import Derived.Test.YtfafaeghnkmpcaaDoorTb
import Derived.Laws.Cover1
import Derived.WalkKit
import Derived.ProofKit
import Derived.OpenShut
import Derived.ShutString
import Derived.Below
import Derived.LaidMore
import Derived.Lay
import Derived.SevenTiedAt
import Derived.Stop.Joined
namespace Go.Proofs.YtfafaeghnkmpcaaDoor.traitBits
open Go.ChangeShapes Go.WideShapes Go.ChangeAt Go.RowKit
open Go.ChangeMaps (open_string shut_string)
set_option linter.unusedVariables false

theorem own : ownKnob Tryd.prog.godebug = none := by kernel_rfl
theorem num : Sim.NumOK Tryd.prog := Sim.numOK_of (by kernel_rfl)
theorem mixed : Tryd.prog.follows .mixedOrders = true := by kernel_rfl
theorem awake_ran : (Sim.callH Tryd.prog Sim.noHook 2 60 2 28 [] (Sim.SG 2 kn.gl)).map Prod.fst = some (.bool true) := by kernel_rfl
set_option maxRecDepth 100000 in
set_option maxHeartbeats 6400000 in
theorem walk (a0 : Int) (a1 : Int) (a2 : Int) (a3 : Int) (w0 : (Lit.int .u16 a0).wf = true) (w1 : (Lit.int .u8 a1).wf = true) (w2 : (Lit.int .u8 a2).wf = true) (w3 : (Lit.int .u8 a3).wf = true) (w : World) (hk : Sim.Known 2 kn.gl w) : Calls Tryd.prog 10 #[.int .u16 a0, .int .u8 a1, .int .u8 a2, .int .u8 a3] w fun e w' => e = .returned (.bool true) ∧ Below w.heap.size w w' := by
  have hx1 := tb.u8wf w1
  have hx2 := tb.u8wf w2
  have hx3 := tb.u8wf w3
  obtain ⟨v, rfl⟩ := tb.u16v w0
  clear w0 w1 w2 w3
  obtain ⟨a, ha⟩ : ∃ a, v ||| tb.ub a1 = a := ⟨_, rfl⟩
  obtain ⟨b, hb⟩ : ∃ b, v &&& ~~~ tb.ub a1 = b := ⟨_, rfl⟩
  obtain ⟨c, hc⟩ : ∃ c, a ||| tb.ub a2 = c := ⟨_, rfl⟩
  obtain ⟨d, hd⟩ : ∃ d, v ||| tb.ub a2 = d := ⟨_, rfl⟩
  have haa : a ||| tb.ub a1 = a := by rw [← ha, tb.with_twice]
  have hbb : b &&& ~~~ tb.ub a1 = b := by rw [← hb, tb.without_twice]
  have hdc : d ||| tb.ub a1 = c := by rw [← hd, ← hc, ← ha, tb.with_swap]
  obtain ⟨q, hq⟩ : ∃ q, tb.chkF v = q := ⟨_, rfl⟩
  have hqa : tb.chkF a = q := by rw [← ha, tb.with_chk, hq]
  obtain ⟨t, ht⟩ : ∃ t, tb.hasF v a3 = t := ⟨_, rfl⟩
  have hta : ¬ a3 = a1 → tb.hasF a a3 = t := fun h => by rw [← ha, tb.with_far v a1 a3 h, ht]
  have htb : ¬ a3 = a1 → tb.hasF b a3 = t := fun h => by rw [← hb, tb.without_far v a1 a3 h, ht]
  have hra : 1 ≤ a1 ∧ a1 ≤ 8 → tb.hasF a a1 = true := fun h => by rw [← ha]; exact tb.with_has v a1 h
  have hrb : tb.hasF b a1 = false := by rw [← hb]; exact tb.without_has v a1
  have hna : ¬ (1 ≤ a1 ∧ a1 ≤ 8) → v = a ∧ v = b := fun h => by rw [← ha, ← hb, tb.ub_none a1 h, tb.without_none]; exact ⟨by simp, rfl⟩
  go_enter Tryd.func10, Tryd.ntmps10
  go_wp2_with fail
  refine (Sim.callsG_ans num mixed Sim.noHook_ok awake_ran rfl rfl hk).mono ?_
  rintro e wa ⟨rfl, hba⟩
  go_wp2_with fail
  refine (tb.with_eq ha (by omega) _).mono ?_
  rintro e w' ⟨rfl, rfl⟩
  go_wp2_with fail
  refine (tb.without_eq hb (by omega) _).mono ?_
  rintro e w' ⟨rfl, rfl⟩

  by_cases hr : 1 ≤ a1 ∧ a1 ≤ 8
  · have hr1 := hr.1
    have hr2 := hr.2
    go_wp2_with fail
    refine (tb.has_eq (hra hr) (by omega) _).mono ?_
    rintro e w' ⟨rfl, rfl⟩
    go_wp2_with fail
    refine (tb.has_eq hrb (by omega) _).mono ?_
    rintro e w' ⟨rfl, rfl⟩
    by_cases hz : a3 = a1
    · subst hz
      go_wp2_with fail
      refine (tb.with_eq haa (by omega) _).mono ?_
      rintro e w' ⟨rfl, rfl⟩
      go_wp2_with fail
      refine (tb.without_eq hbb (by omega) _).mono ?_
      rintro e w' ⟨rfl, rfl⟩
      go_wp2_with fail
      refine (tb.with_eq hc (by omega) _).mono ?_
      rintro e w' ⟨rfl, rfl⟩
      go_wp2_with fail
      refine (tb.with_eq hd (by omega) _).mono ?_
      rintro e w' ⟨rfl, rfl⟩
      go_wp2_with fail
      refine (tb.with_eq hdc (by omega) _).mono ?_
      rintro e w' ⟨rfl, rfl⟩
      go_wp2_with fail
      refine (tb.chk_eq hqa _).mono ?_
      rintro e w' ⟨rfl, rfl⟩
      go_wp2_with fail
      refine (tb.chk_eq hq _).mono ?_
      rintro e w' ⟨rfl, rfl⟩
      go_wp2_with fail
      refine (tb.list_calls v _).mono ?_
      rintro e wl ⟨⟨u, rfl, hown⟩, hbl⟩
      obtain ⟨ao, cp, rfl, hcell, hmx⟩ := tb.cells_of_owns hown
      have hbel := hba.trans (hbl.mono hba.size)
      have hle := tb.tl_le v 8
      clear hown hbl
      obtain ⟨n, hn⟩ : ∃ n, (tb.tl v 8).length = n := ⟨_, rfl⟩
      have hend : tb.cnt v 20 = n := hn
      have hhas : ∀ k : Nat, tb.hasF v k = true → tb.cnt v k < n ∧ (tb.tl v 8).getD (tb.cnt v k) 0 = k ∧ tb.cnt v (k + 1) = tb.cnt v k + 1 := fun k h => by rw [← hn]; exact tb.cnt_has v k h
      rw [hn] at hcell hle hmx ⊢
      go_wp2
      go_loop [18, 19] (fun m i => ∃ k : Nat, k ≤ 20 ∧ i = .int .u8 k ∧ m = .int .i64 (tb.cnt v k)) (fun _ i => 20 - (intOf i).toNat)
      case atStart => exact ⟨0, by omega, rfl, rfl⟩
      case round =>
        obtain ⟨k, hk, rfl, rfl⟩ := hrel
        by_cases hk20 : k < 20
        · cases hh : tb.hasF v (k : Int) with
          | false =>
            have hs := tb.cnt_not v k hh
            go_wp2_with fail
            refine (tb.has_eq hh (by omega) _).mono ?_
            rintro e w' ⟨rfl, rfl⟩
            go_wp2
            go_round
            case rel => exact ⟨k + 1, by omega, by go_num, by rw [hs]⟩
            case measure => simp [intOf]; omega
          | true =>
            obtain ⟨h1, h2, h3⟩ := hhas k hh
            obtain ⟨bb, rfl, hcb⟩ := hcell 0 (by omega)
            have hc1 := hcb _ h1
            rw [h2] at hc1
            obtain ⟨m, hm⟩ : ∃ m, tb.cnt v k = m := ⟨_, rfl⟩
            rw [hm] at h1 h3 hc1
            rw [hm]
            have hmn : ¬ n ≤ m := by omega
            clear hcb hcell hhas
            go_wp2_with fail
            refine (tb.has_eq hh (by omega) _).mono ?_
            rintro e w' ⟨rfl, rfl⟩
            go_wp2
            go_round
            case rel => exact ⟨k + 1, by omega, by go_num, by rw [h3]; go_num⟩
            case measure => simp [intOf]; omega
        · have : k = 20 := by omega
          subst this
          rw [hend]
          go_wp2
          go_ret
          exact ⟨rfl, hbel⟩

    · go_wp2_with fail
      refine (tb.has_eq (hta hz) (by omega) _).mono ?_
      rintro e w' ⟨rfl, rfl⟩
      go_wp2_with fail
      refine (tb.has_eq ht (by omega) _).mono ?_
      rintro e w' ⟨rfl, rfl⟩
      go_wp2_with fail
      refine (tb.has_eq (htb hz) (by omega) _).mono ?_
      rintro e w' ⟨rfl, rfl⟩
      go_wp2_with fail
      refine (tb.has_eq ht (by omega) _).mono ?_
      rintro e w' ⟨rfl, rfl⟩
      go_wp2_with fail
      refine (tb.with_eq haa (by omega) _).mono ?_
      rintro e w' ⟨rfl, rfl⟩
      go_wp2_with fail
      refine (tb.without_eq hbb (by omega) _).mono ?_
      rintro e w' ⟨rfl, rfl⟩
      go_wp2_with fail
      refine (tb.with_eq hc (by omega) _).mono ?_
      rintro e w' ⟨rfl, rfl⟩
      go_wp2_with fail
      refine (tb.with_eq hd (by omega) _).mono ?_
      rintro e w' ⟨rfl, rfl⟩
      go_wp2_with fail
      refine (tb.with_eq hdc (by omega) _).mono ?_
      rintro e w' ⟨rfl, rfl⟩
      go_wp2_with fail
      refine (tb.chk_eq hqa _).mono ?_
      rintro e w' ⟨rfl, rfl⟩
      go_wp2_with fail
      refine (tb.chk_eq hq _).mono ?_
      rintro e w' ⟨rfl, rfl⟩
      go_wp2_with fail
      refine (tb.list_calls v _).mono ?_
      rintro e wl ⟨⟨u, rfl, hown⟩, hbl⟩
      obtain ⟨ao, cp, rfl, hcell, hmx⟩ := tb.cells_of_owns hown
      have hbel := hba.trans (hbl.mono hba.size)
      have hle := tb.tl_le v 8
      clear hown hbl
      obtain ⟨n, hn⟩ : ∃ n, (tb.tl v 8).length = n := ⟨_, rfl⟩
      have hend : tb.cnt v 20 = n := hn
      have hhas : ∀ k : Nat, tb.hasF v k = true → tb.cnt v k < n ∧ (tb.tl v 8).getD (tb.cnt v k) 0 = k ∧ tb.cnt v (k + 1) = tb.cnt v k + 1 := fun k h => by rw [← hn]; exact tb.cnt_has v k h
      rw [hn] at hcell hle hmx ⊢
      go_wp2
      go_loop [18, 19] (fun m i => ∃ k : Nat, k ≤ 20 ∧ i = .int .u8 k ∧ m = .int .i64 (tb.cnt v k)) (fun _ i => 20 - (intOf i).toNat)
      case atStart => exact ⟨0, by omega, rfl, rfl⟩
      case round =>
        obtain ⟨k, hk, rfl, rfl⟩ := hrel
        by_cases hk20 : k < 20
        · cases hh : tb.hasF v (k : Int) with
          | false =>
            have hs := tb.cnt_not v k hh
            go_wp2_with fail
            refine (tb.has_eq hh (by omega) _).mono ?_
            rintro e w' ⟨rfl, rfl⟩
            go_wp2
            go_round
            case rel => exact ⟨k + 1, by omega, by go_num, by rw [hs]⟩
            case measure => simp [intOf]; omega
          | true =>
            obtain ⟨h1, h2, h3⟩ := hhas k hh
            obtain ⟨bb, rfl, hcb⟩ := hcell 0 (by omega)
            have hc1 := hcb _ h1
            rw [h2] at hc1
            obtain ⟨m, hm⟩ : ∃ m, tb.cnt v k = m := ⟨_, rfl⟩
            rw [hm] at h1 h3 hc1
            rw [hm]
            have hmn : ¬ n ≤ m := by omega
            clear hcb hcell hhas
            go_wp2_with fail
            refine (tb.has_eq hh (by omega) _).mono ?_
            rintro e w' ⟨rfl, rfl⟩
            go_wp2
            go_round
            case rel => exact ⟨k + 1, by omega, by go_num, by rw [h3]; go_num⟩
            case measure => simp [intOf]; omega
        · have : k = 20 := by omega
          subst this
          rw [hend]
          go_wp2
          go_ret
          exact ⟨rfl, hbel⟩

  · obtain ⟨e1, e2⟩ := hna hr
    subst e1
    subst e2
    by_cases hlo : 1 ≤ a1
    · have hhi : ¬ a1 ≤ 8 := by omega
      by_cases hz : a3 = a1
      · subst hz
        go_wp2_with fail
        refine (tb.with_eq haa (by omega) _).mono ?_
        rintro e w' ⟨rfl, rfl⟩
        go_wp2_with fail
        refine (tb.without_eq hbb (by omega) _).mono ?_
        rintro e w' ⟨rfl, rfl⟩
        go_wp2_with fail
        refine (tb.with_eq hc (by omega) _).mono ?_
        rintro e w' ⟨rfl, rfl⟩
        go_wp2_with fail
        refine (tb.with_eq hd (by omega) _).mono ?_
        rintro e w' ⟨rfl, rfl⟩
        go_wp2_with fail
        refine (tb.with_eq hdc (by omega) _).mono ?_
        rintro e w' ⟨rfl, rfl⟩
        go_wp2_with fail
        refine (tb.chk_eq hqa _).mono ?_
        rintro e w' ⟨rfl, rfl⟩
        go_wp2_with fail
        refine (tb.chk_eq hq _).mono ?_
        rintro e w' ⟨rfl, rfl⟩
        go_wp2_with fail
        refine (tb.list_calls v _).mono ?_
        rintro e wl ⟨⟨u, rfl, hown⟩, hbl⟩
        obtain ⟨ao, cp, rfl, hcell, hmx⟩ := tb.cells_of_owns hown
        have hbel := hba.trans (hbl.mono hba.size)
        have hle := tb.tl_le v 8
        clear hown hbl
        obtain ⟨n, hn⟩ : ∃ n, (tb.tl v 8).length = n := ⟨_, rfl⟩
        have hend : tb.cnt v 20 = n := hn
        have hhas : ∀ k : Nat, tb.hasF v k = true → tb.cnt v k < n ∧ (tb.tl v 8).getD (tb.cnt v k) 0 = k ∧ tb.cnt v (k + 1) = tb.cnt v k + 1 := fun k h => by rw [← hn]; exact tb.cnt_has v k h
        rw [hn] at hcell hle hmx ⊢
        go_wp2
        go_loop [18, 19] (fun m i => ∃ k : Nat, k ≤ 20 ∧ i = .int .u8 k ∧ m = .int .i64 (tb.cnt v k)) (fun _ i => 20 - (intOf i).toNat)
        case atStart => exact ⟨0, by omega, rfl, rfl⟩
        case round =>
          obtain ⟨k, hk, rfl, rfl⟩ := hrel
          by_cases hk20 : k < 20
          · cases hh : tb.hasF v (k : Int) with
            | false =>
              have hs := tb.cnt_not v k hh
              go_wp2_with fail
              refine (tb.has_eq hh (by omega) _).mono ?_
              rintro e w' ⟨rfl, rfl⟩
              go_wp2
              go_round
              case rel => exact ⟨k + 1, by omega, by go_num, by rw [hs]⟩
              case measure => simp [intOf]; omega
            | true =>
              obtain ⟨h1, h2, h3⟩ := hhas k hh
              obtain ⟨bb, rfl, hcb⟩ := hcell 0 (by omega)
              have hc1 := hcb _ h1
              rw [h2] at hc1
              obtain ⟨m, hm⟩ : ∃ m, tb.cnt v k = m := ⟨_, rfl⟩
              rw [hm] at h1 h3 hc1
              rw [hm]
              have hmn : ¬ n ≤ m := by omega
              clear hcb hcell hhas
              go_wp2_with fail
              refine (tb.has_eq hh (by omega) _).mono ?_
              rintro e w' ⟨rfl, rfl⟩
              go_wp2
              go_round
              case rel => exact ⟨k + 1, by omega, by go_num, by rw [h3]; go_num⟩
              case measure => simp [intOf]; omega
          · have : k = 20 := by omega
            subst this
            rw [hend]
            go_wp2
            go_ret
            exact ⟨rfl, hbel⟩

      · go_wp2_with fail
        refine (tb.has_eq (hta hz) (by omega) _).mono ?_
        rintro e w' ⟨rfl, rfl⟩
        go_wp2_with fail
        refine (tb.has_eq ht (by omega) _).mono ?_
        rintro e w' ⟨rfl, rfl⟩
        go_wp2_with fail
        refine (tb.has_eq (htb hz) (by omega) _).mono ?_
        rintro e w' ⟨rfl, rfl⟩
        go_wp2_with fail
        refine (tb.has_eq ht (by omega) _).mono ?_
        rintro e w' ⟨rfl, rfl⟩
        go_wp2_with fail
        refine (tb.with_eq haa (by omega) _).mono ?_
        rintro e w' ⟨rfl, rfl⟩
        go_wp2_with fail
        refine (tb.without_eq hbb (by omega) _).mono ?_
        rintro e w' ⟨rfl, rfl⟩
        go_wp2_with fail
        refine (tb.with_eq hc (by omega) _).mono ?_
        rintro e w' ⟨rfl, rfl⟩
        go_wp2_with fail
        refine (tb.with_eq hd (by omega) _).mono ?_
        rintro e w' ⟨rfl, rfl⟩
        go_wp2_with fail
        refine (tb.with_eq hdc (by omega) _).mono ?_
        rintro e w' ⟨rfl, rfl⟩
        go_wp2_with fail
        refine (tb.chk_eq hqa _).mono ?_
        rintro e w' ⟨rfl, rfl⟩
        go_wp2_with fail
        refine (tb.chk_eq hq _).mono ?_
        rintro e w' ⟨rfl, rfl⟩
        go_wp2_with fail
        refine (tb.list_calls v _).mono ?_
        rintro e wl ⟨⟨u, rfl, hown⟩, hbl⟩
        obtain ⟨ao, cp, rfl, hcell, hmx⟩ := tb.cells_of_owns hown
        have hbel := hba.trans (hbl.mono hba.size)
        have hle := tb.tl_le v 8
        clear hown hbl
        obtain ⟨n, hn⟩ : ∃ n, (tb.tl v 8).length = n := ⟨_, rfl⟩
        have hend : tb.cnt v 20 = n := hn
        have hhas : ∀ k : Nat, tb.hasF v k = true → tb.cnt v k < n ∧ (tb.tl v 8).getD (tb.cnt v k) 0 = k ∧ tb.cnt v (k + 1) = tb.cnt v k + 1 := fun k h => by rw [← hn]; exact tb.cnt_has v k h
        rw [hn] at hcell hle hmx ⊢
        go_wp2
        go_loop [18, 19] (fun m i => ∃ k : Nat, k ≤ 20 ∧ i = .int .u8 k ∧ m = .int .i64 (tb.cnt v k)) (fun _ i => 20 - (intOf i).toNat)
        case atStart => exact ⟨0, by omega, rfl, rfl⟩
        case round =>
          obtain ⟨k, hk, rfl, rfl⟩ := hrel
          by_cases hk20 : k < 20
          · cases hh : tb.hasF v (k : Int) with
            | false =>
              have hs := tb.cnt_not v k hh
              go_wp2_with fail
              refine (tb.has_eq hh (by omega) _).mono ?_
              rintro e w' ⟨rfl, rfl⟩
              go_wp2
              go_round
              case rel => exact ⟨k + 1, by omega, by go_num, by rw [hs]⟩
              case measure => simp [intOf]; omega
            | true =>
              obtain ⟨h1, h2, h3⟩ := hhas k hh
              obtain ⟨bb, rfl, hcb⟩ := hcell 0 (by omega)
              have hc1 := hcb _ h1
              rw [h2] at hc1
              obtain ⟨m, hm⟩ : ∃ m, tb.cnt v k = m := ⟨_, rfl⟩
              rw [hm] at h1 h3 hc1
              rw [hm]
              have hmn : ¬ n ≤ m := by omega
              clear hcb hcell hhas
              go_wp2_with fail
              refine (tb.has_eq hh (by omega) _).mono ?_
              rintro e w' ⟨rfl, rfl⟩
              go_wp2
              go_round
              case rel => exact ⟨k + 1, by omega, by go_num, by rw [h3]; go_num⟩
              case measure => simp [intOf]; omega
          · have : k = 20 := by omega
            subst this
            rw [hend]
            go_wp2
            go_ret
            exact ⟨rfl, hbel⟩

    · have h0 : a1 = 0 := by omega
      subst h0
      by_cases hz : a3 = 0
      · subst hz
        go_wp2_with fail
        refine (tb.with_eq haa (by omega) _).mono ?_
        rintro e w' ⟨rfl, rfl⟩
        go_wp2_with fail
        refine (tb.without_eq hbb (by omega) _).mono ?_
        rintro e w' ⟨rfl, rfl⟩
        go_wp2_with fail
        refine (tb.with_eq hc (by omega) _).mono ?_
        rintro e w' ⟨rfl, rfl⟩
        go_wp2_with fail
        refine (tb.with_eq hd (by omega) _).mono ?_
        rintro e w' ⟨rfl, rfl⟩
        go_wp2_with fail
        refine (tb.with_eq hdc (by omega) _).mono ?_
        rintro e w' ⟨rfl, rfl⟩
        go_wp2_with fail
        refine (tb.chk_eq hqa _).mono ?_
        rintro e w' ⟨rfl, rfl⟩
        go_wp2_with fail
        refine (tb.chk_eq hq _).mono ?_
        rintro e w' ⟨rfl, rfl⟩
        go_wp2_with fail
        refine (tb.list_calls v _).mono ?_
        rintro e wl ⟨⟨u, rfl, hown⟩, hbl⟩
        obtain ⟨ao, cp, rfl, hcell, hmx⟩ := tb.cells_of_owns hown
        have hbel := hba.trans (hbl.mono hba.size)
        have hle := tb.tl_le v 8
        clear hown hbl
        obtain ⟨n, hn⟩ : ∃ n, (tb.tl v 8).length = n := ⟨_, rfl⟩
        have hend : tb.cnt v 20 = n := hn
        have hhas : ∀ k : Nat, tb.hasF v k = true → tb.cnt v k < n ∧ (tb.tl v 8).getD (tb.cnt v k) 0 = k ∧ tb.cnt v (k + 1) = tb.cnt v k + 1 := fun k h => by rw [← hn]; exact tb.cnt_has v k h
        rw [hn] at hcell hle hmx ⊢
        go_wp2
        go_loop [18, 19] (fun m i => ∃ k : Nat, k ≤ 20 ∧ i = .int .u8 k ∧ m = .int .i64 (tb.cnt v k)) (fun _ i => 20 - (intOf i).toNat)
        case atStart => exact ⟨0, by omega, rfl, rfl⟩
        case round =>
          obtain ⟨k, hk, rfl, rfl⟩ := hrel
          by_cases hk20 : k < 20
          · cases hh : tb.hasF v (k : Int) with
            | false =>
              have hs := tb.cnt_not v k hh
              go_wp2_with fail
              refine (tb.has_eq hh (by omega) _).mono ?_
              rintro e w' ⟨rfl, rfl⟩
              go_wp2
              go_round
              case rel => exact ⟨k + 1, by omega, by go_num, by rw [hs]⟩
              case measure => simp [intOf]; omega
            | true =>
              obtain ⟨h1, h2, h3⟩ := hhas k hh
              obtain ⟨bb, rfl, hcb⟩ := hcell 0 (by omega)
              have hc1 := hcb _ h1
              rw [h2] at hc1
              obtain ⟨m, hm⟩ : ∃ m, tb.cnt v k = m := ⟨_, rfl⟩
              rw [hm] at h1 h3 hc1
              rw [hm]
              have hmn : ¬ n ≤ m := by omega
              clear hcb hcell hhas
              go_wp2_with fail
              refine (tb.has_eq hh (by omega) _).mono ?_
              rintro e w' ⟨rfl, rfl⟩
              go_wp2
              go_round
              case rel => exact ⟨k + 1, by omega, by go_num, by rw [h3]; go_num⟩
              case measure => simp [intOf]; omega
          · have : k = 20 := by omega
            subst this
            rw [hend]
            go_wp2
            go_ret
            exact ⟨rfl, hbel⟩

      · go_wp2_with fail
        refine (tb.has_eq (hta hz) (by omega) _).mono ?_
        rintro e w' ⟨rfl, rfl⟩
        go_wp2_with fail
        refine (tb.has_eq ht (by omega) _).mono ?_
        rintro e w' ⟨rfl, rfl⟩
        go_wp2_with fail
        refine (tb.has_eq (htb hz) (by omega) _).mono ?_
        rintro e w' ⟨rfl, rfl⟩
        go_wp2_with fail
        refine (tb.has_eq ht (by omega) _).mono ?_
        rintro e w' ⟨rfl, rfl⟩
        go_wp2_with fail
        refine (tb.with_eq haa (by omega) _).mono ?_
        rintro e w' ⟨rfl, rfl⟩
        go_wp2_with fail
        refine (tb.without_eq hbb (by omega) _).mono ?_
        rintro e w' ⟨rfl, rfl⟩
        go_wp2_with fail
        refine (tb.with_eq hc (by omega) _).mono ?_
        rintro e w' ⟨rfl, rfl⟩
        go_wp2_with fail
        refine (tb.with_eq hd (by omega) _).mono ?_
        rintro e w' ⟨rfl, rfl⟩
        go_wp2_with fail
        refine (tb.with_eq hdc (by omega) _).mono ?_
        rintro e w' ⟨rfl, rfl⟩
        go_wp2_with fail
        refine (tb.chk_eq hqa _).mono ?_
        rintro e w' ⟨rfl, rfl⟩
        go_wp2_with fail
        refine (tb.chk_eq hq _).mono ?_
        rintro e w' ⟨rfl, rfl⟩
        go_wp2_with fail
        refine (tb.list_calls v _).mono ?_
        rintro e wl ⟨⟨u, rfl, hown⟩, hbl⟩
        obtain ⟨ao, cp, rfl, hcell, hmx⟩ := tb.cells_of_owns hown
        have hbel := hba.trans (hbl.mono hba.size)
        have hle := tb.tl_le v 8
        clear hown hbl
        obtain ⟨n, hn⟩ : ∃ n, (tb.tl v 8).length = n := ⟨_, rfl⟩
        have hend : tb.cnt v 20 = n := hn
        have hhas : ∀ k : Nat, tb.hasF v k = true → tb.cnt v k < n ∧ (tb.tl v 8).getD (tb.cnt v k) 0 = k ∧ tb.cnt v (k + 1) = tb.cnt v k + 1 := fun k h => by rw [← hn]; exact tb.cnt_has v k h
        rw [hn] at hcell hle hmx ⊢
        go_wp2
        go_loop [18, 19] (fun m i => ∃ k : Nat, k ≤ 20 ∧ i = .int .u8 k ∧ m = .int .i64 (tb.cnt v k)) (fun _ i => 20 - (intOf i).toNat)
        case atStart => exact ⟨0, by omega, rfl, rfl⟩
        case round =>
          obtain ⟨k, hk, rfl, rfl⟩ := hrel
          by_cases hk20 : k < 20
          · cases hh : tb.hasF v (k : Int) with
            | false =>
              have hs := tb.cnt_not v k hh
              go_wp2_with fail
              refine (tb.has_eq hh (by omega) _).mono ?_
              rintro e w' ⟨rfl, rfl⟩
              go_wp2
              go_round
              case rel => exact ⟨k + 1, by omega, by go_num, by rw [hs]⟩
              case measure => simp [intOf]; omega
            | true =>
              obtain ⟨h1, h2, h3⟩ := hhas k hh
              obtain ⟨bb, rfl, hcb⟩ := hcell 0 (by omega)
              have hc1 := hcb _ h1
              rw [h2] at hc1
              obtain ⟨m, hm⟩ : ∃ m, tb.cnt v k = m := ⟨_, rfl⟩
              rw [hm] at h1 h3 hc1
              rw [hm]
              have hmn : ¬ n ≤ m := by omega
              clear hcb hcell hhas
              go_wp2_with fail
              refine (tb.has_eq hh (by omega) _).mono ?_
              rintro e w' ⟨rfl, rfl⟩
              go_wp2
              go_round
              case rel => exact ⟨k + 1, by omega, by go_num, by rw [h3]; go_num⟩
              case measure => simp [intOf]; omega
          · have : k = 20 := by omega
            subst this
            rw [hend]
            go_wp2
            go_ret
            exact ⟨rfl, hbel⟩


set_option maxRecDepth 100000 in
theorem lifted (os : Os) (started : os.Started) (H : Type) (enc : TypeId × Value → H) :
    ReturnsInHanded {} Tryd.checked os 10 .any (fun w args => (Rows.traitBitsSpec.pre enc Tryd.prog Tryd.f10 Rows.traitBitsRow.domain false w args ∧ laidMetH Tryd.prog Rows.traitBitsRow.laid w) ∧ sizedMet enc Tryd.prog Tryd.f10 (OpenSpec.ofChange Rows.traitBitsSpec) false w args)
      (Rows.traitBitsSpec.post enc Tryd.prog Tryd.f10 false true false false) := by
  refine returnsInHanded_of_change_and (C := Tryd.checked) (X := fun w _ => laidMetH Tryd.prog Rows.traitBitsRow.laid w) (fun _ _ _ hh h => h.of_heap hh) own started (by kernel_rfl) Tryd.func10
    (ChangeSpec.witness_shaped (enc := enc) (C := Tryd.checked) (os := os) (X := fun w _ => laidMetH Tryd.prog Rows.traitBitsRow.laid w) false (World.laidAll Tryd.prog os Rows.traitBitsRow.laid) #[.int .u16 0, .int .u8 0, .int .u8 0, .int .u8 0] 8 (World.laidAll_os _ _ _)
      (World.shaped_of_ZipB (by kernel_rfl) (by kernel_rfl)) (by kernel_rfl) (by kernel_rfl) (by kernel_rfl)
      (by rw [MakeChecks.laidMetH_plain _ _ _ (by kernel_rfl)]; exact laidMet_laidAll _ (by kernel_rfl) (by kernel_rfl))) ?_
  intro W base args ds gs before hval0 hW _ _ hL _
  have hval : ∀ (j : Nat) t v, Tryd.f10.params[j]? = some t → args[j]? = some v → Value.okWide Tryd.prog W .any base t v := hval0
  have hW' := hW
  obtain ⟨p, q, hA0, hV, rfl, hfz, hnd⟩ := hW
  have hA : DataW.TrodAll enc Tryd.prog W 0 (fun _ => true) true Tryd.f10.params.toList args.toList ds p := hA0
  rw [Tryd.params10] at hA hval
  obtain ⟨v0, vs0, d0, ds0, p0, q0, hargs, rfl, rfl, h0, r0⟩ := trodAll_cons hA
  obtain ⟨v1, vs1, d1, ds1, p1, q1, rfl, rfl, rfl, h1, r1⟩ := trodAll_cons r0
  obtain ⟨v2, vs2, d2, ds2, p2, q2, rfl, rfl, rfl, h2, r2⟩ := trodAll_cons r1
  obtain ⟨v3, vs3, d3, ds3, p3, q3, rfl, rfl, rfl, h3, r3⟩ := trodAll_cons r2
  obtain ⟨rfl, rfl, rfl⟩ := trodAll_nil r3
  obtain rfl : args = #[v0, v1, v2, v3] := by cases args; simp_all
  obtain ⟨rfl, rfl⟩ := trodVars_none hV
  obtain ⟨a0, rfl, rfl, rfl, w0⟩ := open_int Tryd.underlying42 (hval 0 42 v0 rfl rfl) h0
  obtain ⟨a1, rfl, rfl, rfl, w1⟩ := open_int Tryd.underlying5 (hval 1 5 v1 rfl rfl) h1
  obtain ⟨a2, rfl, rfl, rfl, w2⟩ := open_int Tryd.underlying5 (hval 2 5 v2 rfl rfl) h2
  obtain ⟨a3, rfl, rfl, rfl, w3⟩ := open_int Tryd.underlying5 (hval 3 5 v3 rfl rfl) h3
  clear hA0 hval0
  simp only [List.append_nil] at hW'
  refine (walk a0 a1 a2 a3 w0 w1 w2 w3 W (kn.known3 rfl rfl hL)).mono fun e W' ⟨he, bel⟩ => ?_
  subst he
  exact ⟨_, rfl, _, _, _, [], _, [], hW', trodAll_mk1 (shut_bool Tryd.underlying4 _), (trodAll_cons_mk (shut_int Tryd.underlying42 w0) (trodAll_cons_mk (shut_int Tryd.underlying5 w1) (trodAll_cons_mk (shut_int Tryd.underlying5 w2) (trodAll_cons_mk (shut_int Tryd.underlying5 w3) trodAll_mk0)))), rfl, bel.frame _, fun h => by cases h⟩

theorem over : Rows.traitBitsRow.holds Tryd.pinned (OpenSpec.ofChange Rows.traitBitsSpec) :=
  OpenClaim.holds_of_wide 10 Tryd.f10 rfl rfl rfl rfl rfl rfl rfl ⟨rfl, rfl, rfl, rfl, rfl⟩ rfl rfl rfl rfl rfl (by kernel_rfl) Tryd.func10 (by kernel_rfl)
    (of_decide_eq_true (by kernel_rfl)) (by unfold Func.isWrapper; first | (rw [if_pos (by decide +kernel)]; kernel_rfl) | (rw [if_neg (by decide +kernel)]; exact ⟨rfl, rfl⟩))
    (fun os started H enc _ => lifted os started H enc)
end Go.Proofs.YtfafaeghnkmpcaaDoor.traitBits
namespace Go.Proofs.YtfafaeghnkmpcaaDoor
theorem TraitBitsCardHolds : Rows.TraitBitsCardSaid :=
  Claim7.holds_tied_plain_at .later [] [.data, .data, .pinned] true (true, "5bf5157a3c9dbc0ba1e6cc4757f1931556121a62a74905c6d62330b8621eb1be") false traitBits.over (fun _ h => by cases h) (by kernel_rfl) (fun _ h => by cases h) traitBits_row_tie rfl ⟨rfl, rfl⟩ (by kernel_rfl) rfl
    (fun f fn hf hfn => by
      obtain rfl : f = 10 := Option.some.inj ((show Tryd.prog.funcNamed "gambit/gambitlaw04.TraitBits" = some 10 by kernel_rfl).symm.trans hf) |>.symm
      obtain rfl : fn = Tryd.f10 := (Option.some.inj (Tryd.func10.symm.trans hfn)).symm
      exact ⟨by kernel_rfl, fun j t ht => by
        rw [Tryd.params10] at ht
        have hm : t ∈ [42, 5, 5, 5] := by simpa using Array.mem_of_getElem? ht
        have hall : ([42, 5, 5, 5].all fun u => !Tryd.prog.wantsStandIn u) = true := by kernel_rfl
        exact (show Tryd.prog.wantsStandIn t = false by simpa using List.all_eq_true.1 hall t hm)⟩)
    (by kernel_rfl)
#print axioms TraitBitsCardHolds
end Go.Proofs.YtfafaeghnkmpcaaDoor
