/- The law SuitTells: for every input the call returns true, in whatever memory. No condition but the listed variables. -/
import Derived.Test.YtfafaeghnkmpcaaDoorRows
import Derived.Test.YtfafaeghnkmpcaaDoorCards
import Derived.Test.YtfafaeghnkmpcaaDoorTie
import Derived.Test.YtfafaeghnkmpcaaDoorSim
import Derived.Test.YtfafaeghnkmpcaaDoorKs
import Derived.Test.YtfafaeghnkmpcaaDoorOf
import Derived.WalkKit
import Derived.ProofKit
import Derived.OpenShut
import Derived.ShutString
import Derived.Below
import Derived.LaidMore
import Derived.Lay
import Derived.SevenTiedAt
import Derived.Stop.Joined
namespace Go.Proofs.YtfafaeghnkmpcaaDoor.suitTells
open Go.ChangeShapes Go.WideShapes Go.ChangeAt Go.RowKit
open Go.ChangeMaps (open_string shut_string)
set_option linter.unusedVariables false

theorem own : ownKnob Tryd.prog.godebug = none := by kernel_rfl
theorem num : Sim.NumOK Tryd.prog := Sim.numOK_of (by kernel_rfl)
theorem mixed : Tryd.prog.follows .mixedOrders = true := by kernel_rfl
/-- what each suit beats, by what it is beaten, what it weighs -/
def beatsF : Int → Int
  | .ofNat 1 => 2
  | .ofNat 2 => 4
  | .ofNat 3 => 5
  | .ofNat 4 => 3
  | .ofNat 5 => 6
  | .ofNat 6 => 1
  | _ => 0
def beatenF : Int → Int
  | .ofNat 1 => 6
  | .ofNat 2 => 1
  | .ofNat 3 => 4
  | .ofNat 4 => 2
  | .ofNat 5 => 3
  | .ofNat 6 => 5
  | _ => 0
def weightF : Int → Int
  | .ofNat 1 => 3
  | .ofNat 2 => 2
  | .ofNat 3 => 7
  | .ofNat 4 => 11
  | .ofNat 5 => 18
  | .ofNat 6 => 3
  | _ => 0
theorem r14 : ∀ k : Int, 0 ≤ k → (Sim.callH Tryd.prog Sim.noHook 1 60 1 14 [.int .u8 k] (Sim.SG 1 ks.gl)).map Prod.fst = some (.int .u8 (beatsF k))
  | .ofNat 0, _ => by kernel_rfl
  | .ofNat 1, _ => by kernel_rfl
  | .ofNat 2, _ => by kernel_rfl
  | .ofNat 3, _ => by kernel_rfl
  | .ofNat 4, _ => by kernel_rfl
  | .ofNat 5, _ => by kernel_rfl
  | .ofNat 6, _ => by kernel_rfl
  | .ofNat (m + 7), _ => by kernel_rfl
  | .negSucc m, h => absurd h (by omega)
theorem c14 (k : Int) (hk : 0 ≤ k) (w : World) (h : Sim.Known 1 ks.gl w) : Calls Tryd.prog 14 #[.int .u8 k] w fun e w' => e = .returned (.int .u8 (beatsF k)) ∧ Below w.heap.size w w' :=
  Sim.callsG_ans num mixed Sim.noHook_ok (r14 k hk) rfl rfl h
theorem r21 : ∀ k : Int, 0 ≤ k → (Sim.callH Tryd.prog Sim.noHook 1 60 1 21 [.int .u8 k] (Sim.SG 1 ks.gl)).map Prod.fst = some (.int .u8 (beatsF k))
  | .ofNat 0, _ => by kernel_rfl
  | .ofNat 1, _ => by kernel_rfl
  | .ofNat 2, _ => by kernel_rfl
  | .ofNat 3, _ => by kernel_rfl
  | .ofNat 4, _ => by kernel_rfl
  | .ofNat 5, _ => by kernel_rfl
  | .ofNat 6, _ => by kernel_rfl
  | .ofNat (m + 7), _ => by kernel_rfl
  | .negSucc m, h => absurd h (by omega)
theorem c21 (k : Int) (hk : 0 ≤ k) (w : World) (h : Sim.Known 1 ks.gl w) : Calls Tryd.prog 21 #[.int .u8 k] w fun e w' => e = .returned (.int .u8 (beatsF k)) ∧ Below w.heap.size w w' :=
  Sim.callsG_ans num mixed Sim.noHook_ok (r21 k hk) rfl rfl h
theorem r15 : ∀ k : Int, 0 ≤ k → (Sim.callH Tryd.prog Sim.noHook 1 60 1 15 [.int .u8 k] (Sim.SG 1 ks.gl)).map Prod.fst = some (.int .u8 (beatenF k))
  | .ofNat 0, _ => by kernel_rfl
  | .ofNat 1, _ => by kernel_rfl
  | .ofNat 2, _ => by kernel_rfl
  | .ofNat 3, _ => by kernel_rfl
  | .ofNat 4, _ => by kernel_rfl
  | .ofNat 5, _ => by kernel_rfl
  | .ofNat 6, _ => by kernel_rfl
  | .ofNat (m + 7), _ => by kernel_rfl
  | .negSucc m, h => absurd h (by omega)
theorem c15 (k : Int) (hk : 0 ≤ k) (w : World) (h : Sim.Known 1 ks.gl w) : Calls Tryd.prog 15 #[.int .u8 k] w fun e w' => e = .returned (.int .u8 (beatenF k)) ∧ Below w.heap.size w w' :=
  Sim.callsG_ans num mixed Sim.noHook_ok (r15 k hk) rfl rfl h
theorem r22 : ∀ k : Int, 0 ≤ k → (Sim.callH Tryd.prog Sim.noHook 1 60 1 22 [.int .u8 k] (Sim.SG 1 ks.gl)).map Prod.fst = some (.int .u8 (beatenF k))
  | .ofNat 0, _ => by kernel_rfl
  | .ofNat 1, _ => by kernel_rfl
  | .ofNat 2, _ => by kernel_rfl
  | .ofNat 3, _ => by kernel_rfl
  | .ofNat 4, _ => by kernel_rfl
  | .ofNat 5, _ => by kernel_rfl
  | .ofNat 6, _ => by kernel_rfl
  | .ofNat (m + 7), _ => by kernel_rfl
  | .negSucc m, h => absurd h (by omega)
theorem c22 (k : Int) (hk : 0 ≤ k) (w : World) (h : Sim.Known 1 ks.gl w) : Calls Tryd.prog 22 #[.int .u8 k] w fun e w' => e = .returned (.int .u8 (beatenF k)) ∧ Below w.heap.size w w' :=
  Sim.callsG_ans num mixed Sim.noHook_ok (r22 k hk) rfl rfl h
theorem r16 : ∀ k : Int, 0 ≤ k → (Sim.callH Tryd.prog Sim.noHook 1 60 1 16 [.int .u8 k] (Sim.SG 1 ks.gl)).map Prod.fst = some (.int .i64 (weightF k))
  | .ofNat 0, _ => by kernel_rfl
  | .ofNat 1, _ => by kernel_rfl
  | .ofNat 2, _ => by kernel_rfl
  | .ofNat 3, _ => by kernel_rfl
  | .ofNat 4, _ => by kernel_rfl
  | .ofNat 5, _ => by kernel_rfl
  | .ofNat 6, _ => by kernel_rfl
  | .ofNat (m + 7), _ => by kernel_rfl
  | .negSucc m, h => absurd h (by omega)
theorem c16 (k : Int) (hk : 0 ≤ k) (w : World) (h : Sim.Known 1 ks.gl w) : Calls Tryd.prog 16 #[.int .u8 k] w fun e w' => e = .returned (.int .i64 (weightF k)) ∧ Below w.heap.size w w' :=
  Sim.callsG_ans num mixed Sim.noHook_ok (r16 k hk) rfl rfl h
theorem r23 : ∀ k : Int, 0 ≤ k → (Sim.callH Tryd.prog Sim.noHook 1 60 1 23 [.int .u8 k] (Sim.SG 1 ks.gl)).map Prod.fst = some (.int .i64 (weightF k))
  | .ofNat 0, _ => by kernel_rfl
  | .ofNat 1, _ => by kernel_rfl
  | .ofNat 2, _ => by kernel_rfl
  | .ofNat 3, _ => by kernel_rfl
  | .ofNat 4, _ => by kernel_rfl
  | .ofNat 5, _ => by kernel_rfl
  | .ofNat 6, _ => by kernel_rfl
  | .ofNat (m + 7), _ => by kernel_rfl
  | .negSucc m, h => absurd h (by omega)
theorem c23 (k : Int) (hk : 0 ≤ k) (w : World) (h : Sim.Known 1 ks.gl w) : Calls Tryd.prog 23 #[.int .u8 k] w fun e w' => e = .returned (.int .i64 (weightF k)) ∧ Below w.heap.size w w' :=
  Sim.callsG_ans num mixed Sim.noHook_ok (r23 k hk) rfl rfl h

theorem refName_calls (x : Int) (w : World) : Calls Tryd.prog 20 #[.int .u8 x] w fun e w' => e = .returned (.string (suitOf.nameF x)) ∧ w' = w := by
  unfold suitOf.nameF
  by_cases h1 : x = 1
  · subst h1; go_enter Tryd.func20, Tryd.ntmps20; go_wp2; go_ret; exact ⟨rfl, rfl⟩
  by_cases h2 : x = 2
  · subst h2; go_enter Tryd.func20, Tryd.ntmps20; go_wp2; go_ret; exact ⟨rfl, rfl⟩
  by_cases h3 : x = 3
  · subst h3; go_enter Tryd.func20, Tryd.ntmps20; go_wp2; go_ret; exact ⟨rfl, rfl⟩
  by_cases h4 : x = 4
  · subst h4; go_enter Tryd.func20, Tryd.ntmps20; go_wp2; go_ret; exact ⟨rfl, rfl⟩
  by_cases h5 : x = 5
  · subst h5; go_enter Tryd.func20, Tryd.ntmps20; go_wp2; go_ret; exact ⟨rfl, rfl⟩
  by_cases h6 : x = 6
  · subst h6; go_enter Tryd.func20, Tryd.ntmps20; go_wp2; go_ret; exact ⟨rfl, rfl⟩
  go_enter Tryd.func20, Tryd.ntmps20
  go_wp2
  go_ret
  simp [h1, h2, h3, h4, h5, h6]

set_option maxRecDepth 100000 in
set_option maxHeartbeats 4000000 in
theorem refOf_calls (name : ByteArray) (w : World) : Calls Tryd.prog 19 #[.string name] w fun e w' => (∃ v, e = .returned v ∧ suitOf.Ans name v) ∧ Below w.heap.size w w' := by
  go_enter Tryd.func19, Tryd.ntmps19
  go_wp2
  go_loopw [4] (fun s wr => ∃ (k : Nat), k ≤ 6 ∧ s = .int .u8 ((k : Int) + 1) ∧ (∀ y ∈ suitOf.upto k, suitOf.nameF y ≠ name) ∧ wr = w) (fun s _ => 7 - (intOf s).toNat)
  case atStart => exact ⟨0, by omega, rfl, by simp [suitOf.upto], rfl⟩
  case round =>
    obtain ⟨k, hk, rfl, hne, rfl⟩ := hrel
    by_cases h6 : k < 6
    · go_wp2_with fail
      refine (refName_calls _ _).mono ?_
      rintro e w3 ⟨rfl, h3⟩
      have h3 := h3.symm
      subst h3
      by_cases heq : suitOf.nameF ((k : Int) + 1) = name
      · have hb : ((suitOf.nameF ((k : Int) + 1)).toList == name.toList) = true := by rw [heq]; simp
        go_wp2
        go_ret2
        exact ⟨⟨_, rfl, .inl ⟨k, h6, heq, hne, rfl⟩⟩, Below.refl _ _⟩
      · have hb : ((suitOf.nameF ((k : Int) + 1)).toList == name.toList) = false := by
          rw [beq_eq_false_iff_ne]
          intro hh
          exact heq (suitOf.bytes_eq (by simpa [ByteArray.toList_eq] using hh))
        go_wp2
        go_roundw
        case rel => exact ⟨k + 1, by omega, by go_num, by
          rw [suitOf.upto_succ]
          exact fun y hy => (List.mem_append.1 hy).elim (hne y) (fun e => by simp at e; subst e; exact heq), trivial⟩
        case measure => simp [intOf]; omega
    · have : k = 6 := by omega
      subst this
      go_wp2
      go_ret2
      exact ⟨⟨_, rfl, .inr ⟨hne, rfl⟩⟩, Below.refl _ _⟩

theorem known_below {w w' : World} (h : Sim.Known 1 ks.gl w) (hb : Below w.heap.size w w') : Sim.Known 1 ks.gl w' :=
  ⟨Nat.le_trans h.1 hb.size, fun p hp => let ⟨a, b, c, d, f⟩ := h.2 p hp; ⟨a, b, c, d, fun i v hv => (hb.cell (p := ⟨p.1, i, none⟩) (Nat.lt_of_lt_of_le a h.1)).trans (f i v hv)⟩⟩

set_option maxRecDepth 100000 in
set_option maxHeartbeats 4000000 in
theorem walk (a0 : Int) (a1 : ByteArray) (w0 : (Lit.int .u8 a0).wf = true) (w1 : a1.size ≤ maxLen) (w : World) (hk : Sim.Known 1 ks.gl w) : Calls Tryd.prog 6 #[.int .u8 a0, .string a1] w fun e w' => e = .returned (.bool true) ∧ Below w.heap.size w w' := by
  have hw0 : 0 ≤ a0 ∧ a0 ≤ 255 := (by simpa [Lit.wf] using w0 : IntKind.u8.min ≤ a0 ∧ a0 ≤ IntKind.u8.max)
  have h0 : 0 ≤ a0 := hw0.1
  clear w0 hw0
  go_enter Tryd.func6, Tryd.ntmps6
  go_wp2_with fail
  refine (suitOf.of_calls a1 _).mono ?_
  rintro e wa ⟨⟨v1, rfl, hv1⟩, hba⟩
  obtain ⟨s, b, rfl⟩ : ∃ (s : Int) (b : Bool), v1 = .tuple #[.int .u8 s, .bool b] := by
    rcases hv1 with ⟨k, -, -, -, h⟩ | ⟨-, h⟩ <;> exact ⟨_, _, h⟩
  go_wp2_with fail
  refine (refOf_calls a1 _).mono ?_
  rintro e wb ⟨⟨v2, rfl, hv2⟩, hbb⟩
  obtain rfl := (suitOf.ofV_ans hv2).trans (suitOf.ofV_ans hv1).symm
  have hb1 := hba.trans (hbb.mono hba.size)
  go_wp2_with fail
  refine (suitOf.name_calls a0 _).mono ?_
  rintro e w3 ⟨rfl, h3⟩
  have h3 := h3.symm
  subst h3
  go_wp2_with fail
  refine (refName_calls a0 _).mono ?_
  rintro e w4 ⟨rfl, h4⟩
  have h4 := h4.symm
  subst h4
  go_wp2_with fail
  refine (c14 a0 h0 _ (known_below hk hb1)).mono ?_
  rintro e w5 ⟨rfl, hb5⟩
  have hb2 := hb1.trans (hb5.mono hb1.size)
  go_wp2_with fail
  refine (c21 a0 h0 _ (known_below hk hb2)).mono ?_
  rintro e w6 ⟨rfl, hb6⟩
  have hb3 := hb2.trans (hb6.mono hb2.size)
  go_wp2_with fail
  refine (c15 a0 h0 _ (known_below hk hb3)).mono ?_
  rintro e w7 ⟨rfl, hb7⟩
  have hb4 := hb3.trans (hb7.mono hb3.size)
  go_wp2_with fail
  refine (c22 a0 h0 _ (known_below hk hb4)).mono ?_
  rintro e w8 ⟨rfl, hb8⟩
  have hb5 := hb4.trans (hb8.mono hb4.size)
  go_wp2_with fail
  refine (c16 a0 h0 _ (known_below hk hb5)).mono ?_
  rintro e w9 ⟨rfl, hb9⟩
  have hb6 := hb5.trans (hb9.mono hb5.size)
  go_wp2_with fail
  refine (c23 a0 h0 _ (known_below hk hb6)).mono ?_
  rintro e w10 ⟨rfl, hb10⟩
  have hb7 := hb6.trans (hb10.mono hb6.size)
  go_wp2
  go_ret
  exact ⟨rfl, hb7⟩

set_option maxRecDepth 100000 in
theorem lifted (os : Os) (started : os.Started) (H : Type) (enc : TypeId × Value → H) :
    ReturnsInHanded {} Tryd.checked os 6 .any (fun w args => (Rows.suitTellsSpec.pre enc Tryd.prog Tryd.f6 Rows.suitTellsRow.domain false w args ∧ laidMetH Tryd.prog Rows.suitTellsRow.laid w) ∧ sizedMet enc Tryd.prog Tryd.f6 (OpenSpec.ofChange Rows.suitTellsSpec) false w args)
      (Rows.suitTellsSpec.post enc Tryd.prog Tryd.f6 false true false false) := by
  refine returnsInHanded_of_change_and (C := Tryd.checked) (X := fun w _ => laidMetH Tryd.prog Rows.suitTellsRow.laid w) (fun _ _ _ hh h => h.of_heap hh) own started (by kernel_rfl) Tryd.func6
    (ChangeSpec.witness_shaped (enc := enc) (C := Tryd.checked) (os := os) (X := fun w _ => laidMetH Tryd.prog Rows.suitTellsRow.laid w) false (World.laidAll Tryd.prog os Rows.suitTellsRow.laid) #[.int .u8 0, .string (ByteArray.mk #[])] 8 (World.laidAll_os _ _ _)
      (World.shaped_of_ZipB (by kernel_rfl) (by kernel_rfl)) (by kernel_rfl) (by kernel_rfl) (by kernel_rfl)
      (by rw [MakeChecks.laidMetH_plain _ _ _ (by kernel_rfl)]; exact laidMet_laidAll _ (by kernel_rfl) (by kernel_rfl))) ?_
  intro W base args ds gs before hval0 hW _ _ hL _
  have hval : ∀ (j : Nat) t v, Tryd.f6.params[j]? = some t → args[j]? = some v → Value.okWide Tryd.prog W .any base t v := hval0
  have hW' := hW
  obtain ⟨p, q, hA0, hV, rfl, hfz, hnd⟩ := hW
  have hA : DataW.TrodAll enc Tryd.prog W 0 (fun _ => true) true Tryd.f6.params.toList args.toList ds p := hA0
  rw [Tryd.params6] at hA hval
  obtain ⟨v0, vs0, d0, ds0, p0, q0, hargs, rfl, rfl, h0, r0⟩ := trodAll_cons hA
  obtain ⟨v1, vs1, d1, ds1, p1, q1, rfl, rfl, rfl, h1, r1⟩ := trodAll_cons r0
  obtain ⟨rfl, rfl, rfl⟩ := trodAll_nil r1
  obtain rfl : args = #[v0, v1] := by cases args; simp_all
  obtain ⟨rfl, rfl⟩ := trodVars_none hV
  obtain ⟨a0, rfl, rfl, rfl, w0⟩ := open_int Tryd.underlying5 (hval 0 5 v0 rfl rfl) h0
  obtain ⟨a1, rfl, rfl, rfl, w1⟩ := open_string Tryd.underlying9 (hval 1 9 v1 rfl rfl) h1
  clear hA0 hval0
  simp only [List.append_nil] at hW'
  refine (walk a0 a1 w0 w1 W (ks.known1 hL)).mono fun e W' ⟨he, bel⟩ => ?_
  subst he
  exact ⟨_, rfl, _, _, _, [], _, [], hW', trodAll_mk1 (shut_bool Tryd.underlying4 _), (trodAll_cons_mk (shut_int Tryd.underlying5 w0) (trodAll_cons_mk (shut_string Tryd.underlying9 w1) trodAll_mk0)), rfl, bel.frame _, fun h => by cases h⟩

theorem over : Rows.suitTellsRow.holds Tryd.pinned (OpenSpec.ofChange Rows.suitTellsSpec) :=
  OpenClaim.holds_of_wide 6 Tryd.f6 rfl rfl rfl rfl rfl rfl rfl ⟨rfl, rfl, rfl, rfl, rfl⟩ rfl rfl rfl rfl rfl (by kernel_rfl) Tryd.func6 (by kernel_rfl)
    (of_decide_eq_true (by kernel_rfl)) (by unfold Func.isWrapper; first | (rw [if_pos (by decide +kernel)]; kernel_rfl) | (rw [if_neg (by decide +kernel)]; exact ⟨rfl, rfl⟩))
    (fun os started H enc _ => lifted os started H enc)
end Go.Proofs.YtfafaeghnkmpcaaDoor.suitTells
namespace Go.Proofs.YtfafaeghnkmpcaaDoor
theorem SuitTellsCardHolds : Rows.SuitTellsCardSaid :=
  Claim7.holds_tied_plain_at .later [] [.data] true (true, "5bf5157a3c9dbc0ba1e6cc4757f1931556121a62a74905c6d62330b8621eb1be") false suitTells.over (fun _ h => by cases h) (by kernel_rfl) (fun _ h => by cases h) suitTells_row_tie rfl ⟨rfl, rfl⟩ (by kernel_rfl) rfl
    (fun f fn hf hfn => by
      obtain rfl : f = 6 := Option.some.inj ((show Tryd.prog.funcNamed "gambit/gambitlaw03.SuitTells" = some 6 by kernel_rfl).symm.trans hf) |>.symm
      obtain rfl : fn = Tryd.f6 := (Option.some.inj (Tryd.func6.symm.trans hfn)).symm
      exact ⟨by kernel_rfl, fun j t ht => by
        rw [Tryd.params6] at ht
        have hm : t ∈ [5, 9] := by simpa using Array.mem_of_getElem? ht
        have hall : ([5, 9].all fun u => !Tryd.prog.wantsStandIn u) = true := by kernel_rfl
        exact (show Tryd.prog.wantsStandIn t = false by simpa using List.all_eq_true.1 hall t hm)⟩)
    (by kernel_rfl)
#print axioms SuitTellsCardHolds
end Go.Proofs.YtfafaeghnkmpcaaDoor
