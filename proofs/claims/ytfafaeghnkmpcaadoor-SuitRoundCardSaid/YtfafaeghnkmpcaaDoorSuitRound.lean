/- The law SuitRound: for every input the call returns true, in whatever memory. No condition but the listed variables. -/
import Derived.Test.YtfafaeghnkmpcaaDoorRows
import Derived.Test.YtfafaeghnkmpcaaDoorCards
import Derived.Test.YtfafaeghnkmpcaaDoorTie
import Derived.Test.YtfafaeghnkmpcaaDoorSim
import Derived.Test.YtfafaeghnkmpcaaDoorKs
import Derived.Test.YtfafaeghnkmpcaaDoorOf
import Derived.WalkKit
import Derived.ProofKit
import Derived.OpenShut
import Derived.ShutString
import Derived.Below
import Derived.LaidMore
import Derived.Lay
import Derived.SevenTiedAt
import Derived.Stop.Joined
namespace Go.Proofs.YtfafaeghnkmpcaaDoor.suitRound
open Go.ChangeShapes Go.WideShapes Go.ChangeAt Go.RowKit
open Go.ChangeMaps (open_string shut_string)
set_option linter.unusedVariables false

theorem own : ownKnob Tryd.prog.godebug = none := by kernel_rfl
theorem num : Sim.NumOK Tryd.prog := Sim.numOK_of (by kernel_rfl)
theorem mixed : Tryd.prog.follows .mixedOrders = true := by kernel_rfl
/-- the suits, each beating the next -/
def cyc : Nat → Int
  | 0 => 1
  | 1 => 2
  | 2 => 4
  | 3 => 3
  | 4 => 5
  | _ => 6

theorem beats_ran : ∀ j : Nat, j < 6 → (Sim.callH Tryd.prog Sim.noHook 1 60 1 14 [.int .u8 (cyc j)] (Sim.SG 1 ks.gl)).map Prod.fst = some (.int .u8 (cyc ((j + 1) % 6)))
  | 0, _ => by kernel_rfl
  | 1, _ => by kernel_rfl
  | 2, _ => by kernel_rfl
  | 3, _ => by kernel_rfl
  | 4, _ => by kernel_rfl
  | 5, _ => by kernel_rfl
  | j + 6, h => by omega
theorem beaten_ran : ∀ j : Nat, j < 6 → (Sim.callH Tryd.prog Sim.noHook 1 60 1 15 [.int .u8 (cyc j)] (Sim.SG 1 ks.gl)).map Prod.fst = some (.int .u8 (cyc ((j + 5) % 6)))
  | 0, _ => by kernel_rfl
  | 1, _ => by kernel_rfl
  | 2, _ => by kernel_rfl
  | 3, _ => by kernel_rfl
  | 4, _ => by kernel_rfl
  | 5, _ => by kernel_rfl
  | j + 6, h => by omega
theorem awake_ran : (Sim.callH Tryd.prog (Sim.hookPure 11 suitOf.ofA) 1 60 1 12 [] (Sim.SG 1 ks.gl)).map Prod.fst = some (.bool true) := by kernel_rfl

theorem beats_cyc (j : Nat) (hj : j < 6) (w : World) (h : Sim.Known 1 ks.gl w) : Calls Tryd.prog 14 #[.int .u8 (cyc j)] w fun e w' => e = .returned (.int .u8 (cyc ((j + 1) % 6))) ∧ Below w.heap.size w w' :=
  Sim.callsG_ans num mixed Sim.noHook_ok (beats_ran j hj) rfl rfl h
theorem beaten_cyc (j : Nat) (hj : j < 6) (w : World) (h : Sim.Known 1 ks.gl w) : Calls Tryd.prog 15 #[.int .u8 (cyc j)] w fun e w' => e = .returned (.int .u8 (cyc ((j + 5) % 6))) ∧ Below w.heap.size w w' :=
  Sim.callsG_ans num mixed Sim.noHook_ok (beaten_ran j hj) rfl rfl h
theorem beats_mod (m : Nat) (w : World) (h : Sim.Known 1 ks.gl w) : Calls Tryd.prog 14 #[.int .u8 (cyc (m % 6))] w fun e w' => e = .returned (.int .u8 (cyc ((m + 1) % 6))) ∧ Below w.heap.size w w' := by
  have := beats_cyc (m % 6) (Nat.mod_lt _ (by omega)) w h
  rwa [show (m % 6 + 1) % 6 = (m + 1) % 6 by omega] at this
theorem beaten_next (j : Nat) (hj : j < 6) (w : World) (h : Sim.Known 1 ks.gl w) : Calls Tryd.prog 15 #[.int .u8 (cyc ((j + 1) % 6))] w fun e w' => e = .returned (.int .u8 (cyc j)) ∧ Below w.heap.size w w' := by
  have := beaten_cyc ((j + 1) % 6) (Nat.mod_lt _ (by omega)) w h
  rwa [show ((j + 1) % 6 + 5) % 6 = j by omega] at this
theorem beats_prev (j : Nat) (hj : j < 6) (w : World) (h : Sim.Known 1 ks.gl w) : Calls Tryd.prog 14 #[.int .u8 (cyc ((j + 5) % 6))] w fun e w' => e = .returned (.int .u8 (cyc j)) ∧ Below w.heap.size w w' := by
  have := beats_cyc ((j + 5) % 6) (Nat.mod_lt _ (by omega)) w h
  rwa [show ((j + 5) % 6 + 1) % 6 = j by omega] at this
theorem awake_calls (w : World) (h : Sim.Known 1 ks.gl w) : Calls Tryd.prog 12 #[] w fun e w' => e = .returned (.bool true) ∧ Below w.heap.size w w' :=
  Sim.callsG_ans num mixed (Sim.hookPure_ok suitOf.ofBody suitOf.ofA_ok) awake_ran rfl rfl h
theorem of_cyc (j : Nat) (hj : j < 6) (w : World) : Calls Tryd.prog 11 #[.string (suitOf.nameF (cyc j))] w fun e w' => e = .returned (.tuple #[.int .u8 (cyc j), .bool true]) ∧ Below w.heap.size w w' := by
  refine (suitOf.of_calls _ w).mono fun e w' hp => ?_
  obtain ⟨⟨v, he, ha⟩, hb⟩ := hp
  refine ⟨?_, hb⟩
  rw [he, suitOf.ofV_ans ha]
  match j, hj with
  | 0, _ => rfl
  | 1, _ => rfl
  | 2, _ => rfl
  | 3, _ => rfl
  | 4, _ => rfl
  | 5, _ => rfl

theorem cyc_range (j : Nat) : 1 ≤ cyc j ∧ cyc j ≤ 6 := by unfold cyc; split <;> decide
theorem cyc_inj : ∀ i j : Nat, i < 6 → j < 6 → cyc i = cyc j → i = j := by
  intro i j hi hj h
  have : ∀ a : Fin 6, ∀ b : Fin 6, cyc a.1 = cyc b.1 → a.1 = b.1 := by decide
  exact this ⟨i, hi⟩ ⟨j, hj⟩ h
theorem cyc_of (r : Nat) (h : r < 6) : ∃ j, j < 6 ∧ cyc j = (r : Int) + 1 := by
  match r, h with
  | 0, _ => exact ⟨0, by omega, rfl⟩
  | 1, _ => exact ⟨1, by omega, rfl⟩
  | 2, _ => exact ⟨3, by omega, rfl⟩
  | 3, _ => exact ⟨2, by omega, rfl⟩
  | 4, _ => exact ⟨4, by omega, rfl⟩
  | 5, _ => exact ⟨5, by omega, rfl⟩

theorem known_below {w w' : World} (h : Sim.Known 1 ks.gl w) (hb : Below w.heap.size w w') : Sim.Known 1 ks.gl w' :=
  ⟨Nat.le_trans h.1 hb.size, fun p hp => let ⟨a, b, c, d, f⟩ := h.2 p hp; ⟨a, b, c, d, fun i v hv => (hb.cell (p := ⟨p.1, i, none⟩) (Nat.lt_of_lt_of_le a h.1)).trans (f i v hv)⟩⟩

set_option maxRecDepth 100000 in
set_option maxHeartbeats 4000000 in
theorem walk (a0 : Int) (a1 : Int) (w0 : (Lit.int .u8 a0).wf = true) (w1 : (Lit.int .u8 a1).wf = true) (w : World) (hk : Sim.Known 1 ks.gl w) : Calls Tryd.prog 5 #[.int .u8 a0, .int .u8 a1] w fun e w' => e = .returned (.bool true) ∧ Below w.heap.size w w' := by
  have hw0 : 0 ≤ a0 ∧ a0 ≤ 255 := (by simpa [Lit.wf] using w0 : IntKind.u8.min ≤ a0 ∧ a0 ≤ IntKind.u8.max)
  have hw1 : 0 ≤ a1 ∧ a1 ≤ 255 := (by simpa [Lit.wf] using w1 : IntKind.u8.min ≤ a1 ∧ a1 ≤ IntKind.u8.max)
  obtain ⟨N, rfl⟩ : ∃ N : Nat, a1 = N := ⟨a1.toNat, by omega⟩
  obtain ⟨M, rfl⟩ : ∃ M : Nat, a0 = M := ⟨a0.toNat, by omega⟩
  obtain ⟨j, hj, hcj⟩ := cyc_of (M % 6) (Nat.mod_lt _ (by omega))
  have hN : N ≤ 255 := by omega
  obtain ⟨hj1, hj2⟩ := cyc_range j
  have hadd : (M : Int) % 6 + 1 = cyc j := by rw [hcj]; rfl
  clear hcj w0 w1
  go_enter Tryd.func5, Tryd.ntmps5
  go_wp2_with fail
  try rw [hadd]
  refine (suitOf.name_calls _ _).mono ?_
  rintro e w' ⟨rfl, h2⟩
  have h2 := h2.symm
  subst h2
  go_wp2_with fail
  refine (of_cyc j hj _).mono ?_
  rintro e wa ⟨rfl, hba⟩
  go_wp2
  go_loopw [8, 9] (fun v i wr => ∃ n : Nat, n ≤ N ∧ i = .int .i64 n ∧ v = .int .u8 (cyc ((j + n) % 6)) ∧ Below w.heap.size w wr) (fun _ i _ => N - (intOf i).toNat)
  case atStart => exact ⟨0, by omega, rfl, by rw [Nat.add_zero, Nat.mod_eq_of_lt hj], hba⟩
  case round =>
    obtain ⟨n, hn, rfl, rfl, hb⟩ := hrel
    have hkw := known_below hk hb
    by_cases h : n < N
    · obtain ⟨c1, c2⟩ := cyc_range ((j + n + 1) % 6)
      have hlo : ¬ cyc ((j + n + 1) % 6) < 1 := by omega
      have hhi : ¬ 6 < cyc ((j + n + 1) % 6) := by omega
      go_wp2_with fail
      refine (beats_mod (j + n) _ hkw).mono ?_
      rintro e w3 ⟨rfl, hb3⟩
      go_wp2
      go_roundw
      case rel => exact ⟨n + 1, by omega, by go_num, rfl, hb.trans (hb3.mono hb.size)⟩
      case measure => simp [intOf]; omega
    · have hnN : n = N := by omega
      subst hnN
      by_cases hz : n % 6 = 0
      · have hat : (j + n) % 6 = j := by omega
        have hz' : (n : Int) % 6 = 0 := by omega
        try rw [hat]
        go_wp2_with fail
        refine (beats_cyc j hj _ hkw).mono ?_
        rintro e w3 ⟨rfl, hb3⟩
        have hb3' := hb.trans (hb3.mono hb.size)
        go_wp2_with fail
        refine (beaten_next j hj _ (known_below hk hb3')).mono ?_
        rintro e w4 ⟨rfl, hb4⟩
        have hb4' := hb3'.trans (hb4.mono hb3'.size)
        go_wp2_with fail
        refine (beaten_cyc j hj _ (known_below hk hb4')).mono ?_
        rintro e w5 ⟨rfl, hb5⟩
        have hb5' := hb4'.trans (hb5.mono hb4'.size)
        go_wp2_with fail
        refine (beats_prev j hj _ (known_below hk hb5')).mono ?_
        rintro e w6 ⟨rfl, hb6⟩
        have hb6' := hb5'.trans (hb6.mono hb5'.size)
        go_wp2_with fail
        refine (awake_calls _ (known_below hk hb6')).mono ?_
        rintro e w7 ⟨rfl, hb7⟩
        go_wp2
        go_ret
        exact ⟨rfl, hb6'.trans (hb7.mono hb6'.size)⟩
      · have hat : ¬ cyc ((j + n) % 6) = cyc j := fun hh => by
          have := cyc_inj _ _ (Nat.mod_lt _ (by omega)) hj hh
          omega
        have hz' : ¬ (n : Int) % 6 = 0 := by omega
        go_wp2_with fail
        refine (beats_cyc j hj _ hkw).mono ?_
        rintro e w3 ⟨rfl, hb3⟩
        have hb3' := hb.trans (hb3.mono hb.size)
        go_wp2_with fail
        refine (beaten_next j hj _ (known_below hk hb3')).mono ?_
        rintro e w4 ⟨rfl, hb4⟩
        have hb4' := hb3'.trans (hb4.mono hb3'.size)
        go_wp2_with fail
        refine (beaten_cyc j hj _ (known_below hk hb4')).mono ?_
        rintro e w5 ⟨rfl, hb5⟩
        have hb5' := hb4'.trans (hb5.mono hb4'.size)
        go_wp2_with fail
        refine (beats_prev j hj _ (known_below hk hb5')).mono ?_
        rintro e w6 ⟨rfl, hb6⟩
        have hb6' := hb5'.trans (hb6.mono hb5'.size)
        go_wp2_with fail
        refine (awake_calls _ (known_below hk hb6')).mono ?_
        rintro e w7 ⟨rfl, hb7⟩
        go_wp2
        · go_ret
          exact ⟨rfl, hb6'.trans (hb7.mono hb6'.size)⟩
        · rename_i hq
          refine (hq ?_).elim
          rw [beq_eq_false_iff_ne.2 hat, beq_eq_false_iff_ne.2 hz']

set_option maxRecDepth 100000 in
theorem lifted (os : Os) (started : os.Started) (H : Type) (enc : TypeId × Value → H) :
    ReturnsInHanded {} Tryd.checked os 5 .any (fun w args => (Rows.suitRoundSpec.pre enc Tryd.prog Tryd.f5 Rows.suitRoundRow.domain false w args ∧ laidMetH Tryd.prog Rows.suitRoundRow.laid w) ∧ sizedMet enc Tryd.prog Tryd.f5 (OpenSpec.ofChange Rows.suitRoundSpec) false w args)
      (Rows.suitRoundSpec.post enc Tryd.prog Tryd.f5 false true false false) := by
  refine returnsInHanded_of_change_and (C := Tryd.checked) (X := fun w _ => laidMetH Tryd.prog Rows.suitRoundRow.laid w) (fun _ _ _ hh h => h.of_heap hh) own started (by kernel_rfl) Tryd.func5
    (ChangeSpec.witness_shaped (enc := enc) (C := Tryd.checked) (os := os) (X := fun w _ => laidMetH Tryd.prog Rows.suitRoundRow.laid w) false (World.laidAll Tryd.prog os Rows.suitRoundRow.laid) #[.int .u8 0, .int .u8 0] 8 (World.laidAll_os _ _ _)
      (World.shaped_of_ZipB (by kernel_rfl) (by kernel_rfl)) (by kernel_rfl) (by kernel_rfl) (by kernel_rfl)
      (by rw [MakeChecks.laidMetH_plain _ _ _ (by kernel_rfl)]; exact laidMet_laidAll _ (by kernel_rfl) (by kernel_rfl))) ?_
  intro W base args ds gs before hval0 hW _ _ hL _
  have hval : ∀ (j : Nat) t v, Tryd.f5.params[j]? = some t → args[j]? = some v → Value.okWide Tryd.prog W .any base t v := hval0
  have hW' := hW
  obtain ⟨p, q, hA0, hV, rfl, hfz, hnd⟩ := hW
  have hA : DataW.TrodAll enc Tryd.prog W 0 (fun _ => true) true Tryd.f5.params.toList args.toList ds p := hA0
  rw [Tryd.params5] at hA hval
  obtain ⟨v0, vs0, d0, ds0, p0, q0, hargs, rfl, rfl, h0, r0⟩ := trodAll_cons hA
  obtain ⟨v1, vs1, d1, ds1, p1, q1, rfl, rfl, rfl, h1, r1⟩ := trodAll_cons r0
  obtain ⟨rfl, rfl, rfl⟩ := trodAll_nil r1
  obtain rfl : args = #[v0, v1] := by cases args; simp_all
  obtain ⟨rfl, rfl⟩ := trodVars_none hV
  obtain ⟨a0, rfl, rfl, rfl, w0⟩ := open_int Tryd.underlying5 (hval 0 5 v0 rfl rfl) h0
  obtain ⟨a1, rfl, rfl, rfl, w1⟩ := open_int Tryd.underlying5 (hval 1 5 v1 rfl rfl) h1
  clear hA0 hval0
  simp only [List.append_nil] at hW'
  refine (walk a0 a1 w0 w1 W (ks.known1 hL)).mono fun e W' ⟨he, bel⟩ => ?_
  subst he
  exact ⟨_, rfl, _, _, _, [], _, [], hW', trodAll_mk1 (shut_bool Tryd.underlying4 _), (trodAll_cons_mk (shut_int Tryd.underlying5 w0) (trodAll_cons_mk (shut_int Tryd.underlying5 w1) trodAll_mk0)), rfl, bel.frame _, fun h => by cases h⟩

theorem over : Rows.suitRoundRow.holds Tryd.pinned (OpenSpec.ofChange Rows.suitRoundSpec) :=
  OpenClaim.holds_of_wide 5 Tryd.f5 rfl rfl rfl rfl rfl rfl rfl ⟨rfl, rfl, rfl, rfl, rfl⟩ rfl rfl rfl rfl rfl (by kernel_rfl) Tryd.func5 (by kernel_rfl)
    (of_decide_eq_true (by kernel_rfl)) (by unfold Func.isWrapper; first | (rw [if_pos (by decide +kernel)]; kernel_rfl) | (rw [if_neg (by decide +kernel)]; exact ⟨rfl, rfl⟩))
    (fun os started H enc _ => lifted os started H enc)
end Go.Proofs.YtfafaeghnkmpcaaDoor.suitRound
namespace Go.Proofs.YtfafaeghnkmpcaaDoor
theorem SuitRoundCardHolds : Rows.SuitRoundCardSaid :=
  Claim7.holds_tied_plain_at .later [] [.data] true (true, "5bf5157a3c9dbc0ba1e6cc4757f1931556121a62a74905c6d62330b8621eb1be") false suitRound.over (fun _ h => by cases h) (by kernel_rfl) (fun _ h => by cases h) suitRound_row_tie rfl ⟨rfl, rfl⟩ (by kernel_rfl) rfl
    (fun f fn hf hfn => by
      obtain rfl : f = 5 := Option.some.inj ((show Tryd.prog.funcNamed "gambit/gambitlaw03.SuitRound" = some 5 by kernel_rfl).symm.trans hf) |>.symm
      obtain rfl : fn = Tryd.f5 := (Option.some.inj (Tryd.func5.symm.trans hfn)).symm
      exact ⟨by kernel_rfl, fun j t ht => by
        rw [Tryd.params5] at ht
        have hm : t ∈ [5, 5] := by simpa using Array.mem_of_getElem? ht
        have hall : ([5, 5].all fun u => !Tryd.prog.wantsStandIn u) = true := by kernel_rfl
        exact (show Tryd.prog.wantsStandIn t = false by simpa using List.all_eq_true.1 hall t hm)⟩)
    (by kernel_rfl)
#print axioms SuitRoundCardHolds
end Go.Proofs.YtfafaeghnkmpcaaDoor
