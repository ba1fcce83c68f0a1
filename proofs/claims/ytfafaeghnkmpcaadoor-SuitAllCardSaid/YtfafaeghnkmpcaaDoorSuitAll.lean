/- The law SuitAll: for every input the call returns true, in whatever memory. No condition but the listed variables. -/
import Derived.Test.YtfafaeghnkmpcaaDoorRows
import Derived.Test.YtfafaeghnkmpcaaDoorCards
import Derived.Test.YtfafaeghnkmpcaaDoorTie
import Derived.Test.YtfafaeghnkmpcaaDoorSim
import Derived.Test.YtfafaeghnkmpcaaDoorKs
import Derived.Test.YtfafaeghnkmpcaaDoorWk
import Derived.WalkKit
import Derived.ProofKit
import Derived.OpenShut
import Derived.ShutString
import Derived.Below
import Derived.LaidMore
import Derived.Lay
import Derived.SevenTiedAt
import Derived.Stop.Joined
namespace Go.Proofs.YtfafaeghnkmpcaaDoor.suitAll
open Go.ChangeShapes Go.WideShapes Go.ChangeAt Go.RowKit
open Go.ChangeMaps (open_string shut_string)
set_option linter.unusedVariables false

theorem own : ownKnob Tryd.prog.godebug = none := by kernel_rfl
theorem num : Sim.NumOK Tryd.prog := Sim.numOK_of (by kernel_rfl)
theorem mixed : Tryd.prog.follows .mixedOrders = true := by kernel_rfl
theorem awake_ran : (Sim.callH Tryd.prog (Sim.hookPure 11 suitOf.ofA) 1 60 1 12 [] (Sim.SG 1 ks.gl)).map Prod.fst = some (.bool true) := by kernel_rfl
theorem awake_calls (w : World) (h : Sim.Known 1 ks.gl w) : Calls Tryd.prog 12 #[] w fun e w' => e = .returned (.bool true) ∧ Below w.heap.size w w' :=
  Sim.callsG_ans num mixed (Sim.hookPure_ok suitOf.ofBody suitOf.ofA_ok) awake_ran rfl rfl h
theorem all_calls (w : World) : Calls Tryd.prog 17 #[] w fun e w' => e = .returned (.func (.func 49) #[] #[]) ∧ w' = w :=
  (callsIn_wide (n := 5)).1 (suitOf.all_in Fence.wide 5 trivial rfl w)
theorem known_below {w w' : World} (h : Sim.Known 1 ks.gl w) (hb : Below w.heap.size w w') : Sim.Known 1 ks.gl w' :=
  ⟨Nat.le_trans h.1 hb.size, fun p hp => let ⟨a, b, c, d, f⟩ := h.2 p hp; ⟨a, b, c, d, fun i v hv => (hb.cell (p := ⟨p.1, i, none⟩) (Nat.lt_of_lt_of_le a h.1)).trans (f i v hv)⟩⟩

/-- a slice of the first so many suits -/
def Us (w : World) (v : Value) (m : Nat) : Prop :=
  ∃ ao c, v = .slice ao m c ∧ ∀ i, i < m → ∃ b, ao = some ⟨b, 0, none⟩ ∧ b < w.heap.size ∧ ∀ j : Nat, j < m → w.cell? ⟨b, j, none⟩ = some (.int .u8 ((j : Int) + 1))

theorem upto_get (m j : Nat) (h : j < m) : ((suitOf.upto m).map (Value.int .u8))[j]? = some (.int .u8 ((j : Int) + 1)) := by
  simp [suitOf.upto, h]

theorem Us.of_owns {w : World} {base : Nat} {v : Value} {n : Nat} {m : Nat} (h : w.ownsRow base 22 1 v n ((suitOf.upto m).map (Value.int .u8))) : Us w v m := by
  obtain ⟨h1, h2⟩ := h
  have hn : n = m := by simpa [suitOf.upto_length] using h1.symm
  subst hn
  rcases h2 with ⟨rfl, h0⟩ | ⟨g, cap, cur, rfl, _, hg, hle, hmax, hsz, htk⟩
  · exact ⟨none, 0, by rw [h0], fun i hi => by omega⟩
  · refine ⟨some ⟨g, 0, none⟩, cap, rfl, fun i _ => ⟨g, rfl, (Array.getElem?_eq_some_iff.1 hg).1, fun j hj => ?_⟩⟩
    have h3 : (cur.toList.take (n * 1))[j]? = ((suitOf.upto n).map (Value.int .u8))[j]? := by rw [htk]
    rw [List.getElem?_take, if_pos (by omega), upto_get n j hj] at h3
    simp only [World.cell?, hg]
    simpa using h3

theorem Us.below {w w' : World} {v : Value} {m : Nat} (h : Us w v m) (hb : Below w.heap.size w w') : Us w' v m := by
  obtain ⟨ao, c, h1, h2⟩ := h
  exact ⟨ao, c, h1, fun i hi => let ⟨b, h3, h4, h5⟩ := h2 i hi; ⟨b, h3, Nat.lt_of_lt_of_le h4 hb.size, fun j hj => (hb.cell (p := ⟨b, j, none⟩) h4).trans (h5 j hj)⟩⟩

set_option maxRecDepth 100000 in
set_option maxHeartbeats 4000000 in
theorem walk (a0 : Int) (w0 : (Lit.int .u8 a0).wf = true) (w : World) (hk : Sim.Known 1 ks.gl w) : Calls Tryd.prog 4 #[.int .u8 a0] w fun e w' => e = .returned (.bool true) ∧ Below w.heap.size w w' := by
  have hw0 : 0 ≤ a0 ∧ a0 ≤ 255 := (by simpa [Lit.wf] using w0 : IntKind.u8.min ≤ a0 ∧ a0 ≤ IntKind.u8.max)
  obtain ⟨M, rfl⟩ : ∃ M : Nat, a0 = M := ⟨a0.toNat, by omega⟩
  obtain ⟨R, hR, hRM⟩ : ∃ R : Nat, R ≤ 7 ∧ (M : Int) % 8 = R := ⟨M % 8, by omega, by omega⟩
  clear w0
  go_enter Tryd.func4, Tryd.ntmps4
  go_wp2_with fail
  refine (all_calls _).mono ?_
  rintro e w1 ⟨rfl, h1⟩
  have h1 := h1.symm
  subst h1
  go_wp2_with fail
  try rw [hRM]
  refine (suitWalk.walk_calls R hR _).mono ?_
  rintro e wa ⟨v1, rfl, hv1, hba⟩
  have hu1 := Us.of_owns hv1
  go_wp2_with fail
  refine ((callsIn_wide (n := 5)).1 (suitWalk.walk_in7 Fence.wide 5 trivial trivial rfl (by omega) _)).mono ?_
  rintro e wb ⟨v2, rfl, hv2, hbb⟩
  have hu2 := Us.of_owns hv2
  have hb := hba.trans (hbb.mono hba.size)
  obtain ⟨ao1, c1, rfl, hc1⟩ := hu1.below hbb
  obtain ⟨ao2, c2, rfl, hc2⟩ := hu2
  obtain ⟨m1, hm1⟩ : ∃ m1, m1 = min R 6 := ⟨_, rfl⟩
  rw [← hm1] at hc1 ⊢
  have hm6 : m1 ≤ 6 := by omega
  have hmin : (m1 : Int) = min (R : Int) 6 := by omega
  clear hv1 hv2 hu1
  go_wp2
  go_loopw [6] (fun i wr => ∃ k : Nat, k ≤ m1 ∧ i = .int .i64 k ∧ wr = wb) (fun i _ => m1 - (intOf i).toNat)
  case atStart => exact ⟨0, by omega, rfl, rfl⟩
  case round =>
    obtain ⟨k, hkm, rfl, rfl⟩ := hrel
    by_cases h : k < m1
    · obtain ⟨b, rfl, hbl, hcell⟩ := hc1 k h
      have hcx := hcell k h
      go_wp2
      go_roundw
      case rel => exact ⟨k + 1, by omega, by go_num, trivial⟩
      case measure => simp [intOf]; omega
    · have : k = m1 := by omega
      subst this
      go_wp2
      go_loopw [7] (fun i wr' => ∃ k : Nat, k ≤ 6 ∧ i = .int .i64 k ∧ wr' = wr) (fun i _ => 6 - (intOf i).toNat)
      case atStart => exact ⟨0, by omega, rfl, rfl⟩
      case round =>
        obtain ⟨q, hq, rfl, rfl⟩ := hrel
        by_cases h6 : q < 6
        · obtain ⟨b, rfl, hbl, hcell⟩ := hc2 q h6
          have hcx := hcell q h6
          go_wp2
          go_roundw
          case rel => exact ⟨q + 1, by omega, by go_num, trivial⟩
          case measure => simp [intOf]; omega
        · have : q = 6 := by omega
          subst this
          rcases (by omega : (R = 7 ∧ k = 6) ∨ (k = R ∧ R ≤ 6)) with ⟨h7, h7'⟩ | ⟨h7, h7'⟩
          · subst h7 h7'
            clear hmin hm1 hm6 hkm
            go_wp2_with fail
            refine (awake_calls _ (known_below hk hb)).mono ?_
            rintro e wz ⟨rfl, hbz⟩
            go_wp2
            go_ret
            exact ⟨rfl, hb.trans (hbz.mono hb.size)⟩
          · subst h7
            have hc7 : (k : Int) ≤ 6 := by omega
            have hc8 : ¬ (6 : Int) < (k : Int) := by omega
            have hc9 : min (k : Int) 6 = (k : Int) := by omega
            clear hmin hm1 hm6 hkm
            go_wp2_with fail
            refine (awake_calls _ (known_below hk hb)).mono ?_
            rintro e wz ⟨rfl, hbz⟩
            go_wp2
            go_ret
            exact ⟨rfl, hb.trans (hbz.mono hb.size)⟩

set_option maxRecDepth 100000 in
theorem lifted (os : Os) (started : os.Started) (H : Type) (enc : TypeId × Value → H) :
    ReturnsInHanded {} Tryd.checked os 4 .any (fun w args => (Rows.suitAllSpec.pre enc Tryd.prog Tryd.f4 Rows.suitAllRow.domain false w args ∧ laidMetH Tryd.prog Rows.suitAllRow.laid w) ∧ sizedMet enc Tryd.prog Tryd.f4 (OpenSpec.ofChange Rows.suitAllSpec) false w args)
      (Rows.suitAllSpec.post enc Tryd.prog Tryd.f4 false true false false) := by
  refine returnsInHanded_of_change_and (C := Tryd.checked) (X := fun w _ => laidMetH Tryd.prog Rows.suitAllRow.laid w) (fun _ _ _ hh h => h.of_heap hh) own started (by kernel_rfl) Tryd.func4
    (ChangeSpec.witness_shaped (enc := enc) (C := Tryd.checked) (os := os) (X := fun w _ => laidMetH Tryd.prog Rows.suitAllRow.laid w) false (World.laidAll Tryd.prog os Rows.suitAllRow.laid) #[.int .u8 0] 8 (World.laidAll_os _ _ _)
      (World.shaped_of_ZipB (by kernel_rfl) (by kernel_rfl)) (by kernel_rfl) (by kernel_rfl) (by kernel_rfl)
      (by rw [MakeChecks.laidMetH_plain _ _ _ (by kernel_rfl)]; exact laidMet_laidAll _ (by kernel_rfl) (by kernel_rfl))) ?_
  intro W base args ds gs before hval0 hW _ _ hL _
  have hval : ∀ (j : Nat) t v, Tryd.f4.params[j]? = some t → args[j]? = some v → Value.okWide Tryd.prog W .any base t v := hval0
  have hW' := hW
  obtain ⟨p, q, hA0, hV, rfl, hfz, hnd⟩ := hW
  have hA : DataW.TrodAll enc Tryd.prog W 0 (fun _ => true) true Tryd.f4.params.toList args.toList ds p := hA0
  rw [Tryd.params4] at hA hval
  obtain ⟨v0, vs0, d0, ds0, p0, q0, hargs, rfl, rfl, h0, r0⟩ := trodAll_cons hA
  obtain ⟨rfl, rfl, rfl⟩ := trodAll_nil r0
  obtain rfl : args = #[v0] := by cases args; simp_all
  obtain ⟨rfl, rfl⟩ := trodVars_none hV
  obtain ⟨a0, rfl, rfl, rfl, w0⟩ := open_int Tryd.underlying5 (hval 0 5 v0 rfl rfl) h0
  clear hA0 hval0
  simp only [List.append_nil] at hW'
  refine (walk a0 w0 W (ks.known1 hL)).mono fun e W' ⟨he, bel⟩ => ?_
  subst he
  exact ⟨_, rfl, _, _, _, [], _, [], hW', trodAll_mk1 (shut_bool Tryd.underlying4 _), (trodAll_cons_mk (shut_int Tryd.underlying5 w0) trodAll_mk0), rfl, bel.frame _, fun h => by cases h⟩

theorem over : Rows.suitAllRow.holds Tryd.pinned (OpenSpec.ofChange Rows.suitAllSpec) :=
  OpenClaim.holds_of_wide 4 Tryd.f4 rfl rfl rfl rfl rfl rfl rfl ⟨rfl, rfl, rfl, rfl, rfl⟩ rfl rfl rfl rfl rfl (by kernel_rfl) Tryd.func4 (by kernel_rfl)
    (of_decide_eq_true (by kernel_rfl)) (by unfold Func.isWrapper; first | (rw [if_pos (by decide +kernel)]; kernel_rfl) | (rw [if_neg (by decide +kernel)]; exact ⟨rfl, rfl⟩))
    (fun os started H enc _ => lifted os started H enc)
end Go.Proofs.YtfafaeghnkmpcaaDoor.suitAll
namespace Go.Proofs.YtfafaeghnkmpcaaDoor
theorem SuitAllCardHolds : Rows.SuitAllCardSaid :=
  Claim7.holds_tied_plain_at .later [] [.data] true (true, "5bf5157a3c9dbc0ba1e6cc4757f1931556121a62a74905c6d62330b8621eb1be") false suitAll.over (fun _ h => by cases h) (by kernel_rfl) (fun _ h => by cases h) suitAll_row_tie rfl ⟨rfl, rfl⟩ (by kernel_rfl) rfl
    (fun f fn hf hfn => by
      obtain rfl : f = 4 := Option.some.inj ((show Tryd.prog.funcNamed "gambit/gambitlaw03.SuitAll" = some 4 by kernel_rfl).symm.trans hf) |>.symm
      obtain rfl : fn = Tryd.f4 := (Option.some.inj (Tryd.func4.symm.trans hfn)).symm
      exact ⟨by kernel_rfl, fun j t ht => by
        rw [Tryd.params4] at ht
        have hm : t ∈ [5] := by simpa using Array.mem_of_getElem? ht
        have hall : ([5].all fun u => !Tryd.prog.wantsStandIn u) = true := by kernel_rfl
        exact (show Tryd.prog.wantsStandIn t = false by simpa using List.all_eq_true.1 hall t hm)⟩)
    (by kernel_rfl)
#print axioms SuitAllCardHolds
end Go.Proofs.YtfafaeghnkmpcaaDoor
