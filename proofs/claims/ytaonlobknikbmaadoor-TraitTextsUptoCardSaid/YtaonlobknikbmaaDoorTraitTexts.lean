/- The law TraitTexts, where what it reads is of bulk at most 1048576: for every such input the call returns true, in whatever memory. Conditions: that bulk, and the listed variables. -/
import Derived.Test.YtaonlobknikbmaaDoorRows
import Derived.Test.YtaonlobknikbmaaDoorCards
import Derived.Test.YtaonlobknikbmaaDoorTie
import Derived.Test.YtaonlobknikbmaaDoorSim
import Derived.Test.YtaonlobknikbmaaDoorKn
import Derived.Test.YtaonlobknikbmaaDoorTt
import Derived.Laws.Cover1
import Derived.WalkKit
import Derived.ProofKit
import Derived.OpenShut
import Derived.ShutString
import Derived.Below
import Derived.LaidMore
import Derived.Lay
import Derived.SevenTiedAt
import Derived.Deep.DeepHandedRow
import Derived.Stop.Joined
namespace Go.Proofs.YtaonlobknikbmaaDoor.traitTexts
open Go.ChangeShapes Go.WideShapes Go.ChangeAt Go.RowKit
open Go.ChangeMaps (open_string shut_string)
set_option linter.unusedVariables false

theorem own : ownKnob Tryd.prog.godebug = none := by kernel_rfl
theorem num : Sim.NumOK Tryd.prog := Sim.numOK_of (by kernel_rfl)
theorem mixed : Tryd.prog.follows .mixedOrders = true := by kernel_rfl
theorem awake_ran : (Sim.callH Tryd.prog Sim.noHook 1 60 1 29 [] (Sim.SG 1 kn.gl)).map Prod.fst = some (.bool true) := by kernel_rfl
set_option maxRecDepth 100000 in
set_option maxHeartbeats 3200000 in
theorem walk (a0 : ByteArray) (w0 : a0.size ≤ maxLen) (b0 : a0.size ≤ 1048576) (w : World) (hk : Sim.Known 1 kn.gl w) : Calls Tryd.prog 5 #[.string a0] w fun e w' => e = .returned (.bool true) ∧ Below w.heap.size w w' := by
  have h1 := fun u (h : Sim.Known 1 kn.gl u) => tt.of_calls a0 h
  have h2 := fun u => tt.rof_calls a0 u
  have h3 := fun u (h : Sim.Known 1 kn.gl u) => tt.parse_calls a0 (by omega) u h
  have h4 := fun u (h : Sim.Known 1 kn.gl u) => tt.rparse_calls a0 (by omega) u h
  obtain ⟨o, ho⟩ : ∃ o, tt.ofF a0 = o := ⟨_, rfl⟩
  obtain ⟨d, hd⟩ : ∃ d, decide (o ≠ 0) = d := ⟨_, rfl⟩
  obtain ⟨v, hv⟩ : ∃ v, (tt.parF a0).1 = v := ⟨_, rfl⟩
  obtain ⟨x, hx⟩ : ∃ x, (tt.parF a0).2 = x := ⟨_, rfl⟩
  rw [ho, hd] at h1 h2
  rw [hv, hx] at h3 h4
  clear ho hd hv hx
  go_enter Tryd.func5, Tryd.ntmps5
  go_wp2_with fail
  refine (h1 _ hk).mono ?_
  rintro e w1 ⟨rfl, b1⟩
  go_wp2_with fail
  refine (h2 _).mono ?_
  rintro e w2 ⟨rfl, b2⟩
  have c2 := b1.trans (b2.mono b1.size)
  have k2 := tt.known_below hk c2
  go_wp2_with fail
  refine (h3 _ k2).mono ?_
  rintro e w3 ⟨rfl, b3⟩
  have c3 := c2.trans (b3.mono c2.size)
  have k3 := tt.known_below hk c3
  go_wp2_with fail
  refine (h4 _ k3).mono ?_
  rintro e w4 ⟨rfl, b4⟩
  have c4 := c3.trans (b4.mono c3.size)
  have k4 := tt.known_below hk c4
  go_wp2_with fail
  refine (Sim.callsG_ans num mixed Sim.noHook_ok awake_ran rfl rfl k4).mono ?_
  rintro e w5 ⟨rfl, b5⟩
  go_wp2
  go_ret
  exact ⟨rfl, c4.trans (b5.mono c4.size)⟩

set_option maxRecDepth 100000 in
theorem reads (os : Os) {H : Type} (enc : TypeId × Value → H) : ∃ places, DataW.whole enc Tryd.prog ((World.laidAll Tryd.prog os Rows.traitTextsUptoRow.laid).forCall (fun _ _ => 0) ⟨#[], #[.string (ByteArray.mk #[])], []⟩).memory Tryd.f5.params.toList Rows.traitTextsSpec.vars false #[.string (ByteArray.mk #[])].toList 8 = some ([.lit (.string [])], [], places) :=
  ⟨[], by kernel_rfl⟩
theorem okIn (os : Os) : Input.okWideB Tryd.prog ((World.laidAll Tryd.prog os Rows.traitTextsUptoRow.laid).forCall (fun _ _ => 0) ⟨#[], #[.string (ByteArray.mk #[])], []⟩) 5 ⟨#[], #[.string (ByteArray.mk #[])], []⟩ = true := by kernel_rfl

set_option maxRecDepth 100000 in
theorem liftedUpto (os : Os) (started : os.Started) (H : Type) (enc : TypeId × Value → H) (F : Stop.Interp) :
    ReturnsInHanded {} Tryd.checked os 5 .any ((Rows.OpenSpec.upto Rows.traitTextsSpec).preRow enc Tryd.prog Tryd.f5 Rows.traitTextsUptoRow.domain false Rows.traitTextsUptoRow.laid) (((Rows.OpenSpec.upto Rows.traitTextsSpec).at F).post enc Tryd.prog Tryd.f5 false true false false) := by
  obtain ⟨places, hx⟩ := reads os enc
  refine returnsInHanded_of_row (C := Tryd.checked) (s := Rows.OpenSpec.upto Rows.traitTextsSpec) own started (by kernel_rfl) Tryd.func5
    ⟨World.laidAll Tryd.prog os Rows.traitTextsUptoRow.laid, fun _ _ => 0, ⟨#[], #[.string (ByteArray.mk #[])], []⟩, World.laidAll_os _ _ _, World.shaped_of_ZipB (by kernel_rfl) (by kernel_rfl), (Input.okWide_of_okWideB (base := 0) (okIn os)).1, (Input.okWide_of_okWideB (okIn os)).2,
      OpenSpec.preRow_of_cond 8 hx (by kernel_rfl) (fun k hk => by cases hk; kernel_rfl) (by kernel_rfl) (by rw [MakeChecks.laidMetH_plain _ _ _ (by kernel_rfl)]; exact laidMet_laidAll _ (by kernel_rfl) (by kernel_rfl)), by
        simp only [Assume.holds]
        exact ⟨by simp, by simp, fun h => by simp at h, by simp, by simp⟩⟩ ?_
  intro W base args ds gs before hval0 hW _ hcond _ hL _ _
  have hval : ∀ (j : Nat) t v, Tryd.f5.params[j]? = some t → args[j]? = some v → Value.okWide Tryd.prog W .any base t v := hval0
  have hsm : Rows.uptoSmall H (ds ++ gs) = true := hcond _ rfl
  clear hcond
  have hW' := hW
  obtain ⟨p, q, hA0, hV, rfl, hfz, hnd⟩ := hW
  have hA : DataW.TrodAll enc Tryd.prog W 0 (fun _ => true) true Tryd.f5.params.toList args.toList ds p := hA0
  rw [Tryd.params5] at hA hval
  obtain ⟨v0, vs0, d0, ds0, p0, q0, hargs, rfl, rfl, h0, r0⟩ := trodAll_cons hA
  obtain ⟨rfl, rfl, rfl⟩ := trodAll_nil r0
  obtain rfl : args = #[v0] := by cases args; simp_all
  obtain ⟨rfl, rfl⟩ := trodVars_none hV
  obtain ⟨a0, rfl, rfl, rfl, w0⟩ := open_string Tryd.underlying9 (hval 0 9 v0 rfl rfl) h0
  clear hA0 hval0
  simp only [List.append_nil] at hW'
  have b0 : a0.size ≤ 1048576 := by
    have h := of_decide_eq_true hsm
    simp only [List.cons_append, List.nil_append, List.append_nil, Rows.uptoBulkAll, Rows.uptoBulk] at h
    have e : a0.data.toList.length = a0.size := by rw [Array.length_toList]; rfl
    omega
  refine (walk a0 w0 b0 W (kn.known3 rfl rfl hL)).mono fun e W' ⟨he, bel⟩ => ?_
  subst he
  exact ⟨_, rfl, _, _, _, [], _, [], hW', trodAll_mk1 (shut_bool Tryd.underlying4 _), (trodAll_cons_mk (shut_string Tryd.underlying9 w0) trodAll_mk0), rfl, bel.frame _, fun h => by cases h⟩

theorem over : Rows.TraitTextsUptoSaid :=
  OpenClaim.holds_of_cond 5 Tryd.f5 rfl rfl rfl rfl rfl rfl rfl ⟨rfl, rfl, rfl, rfl, rfl⟩ rfl rfl rfl rfl rfl (by kernel_rfl) Tryd.func5 (by kernel_rfl)
    (of_decide_eq_true (by kernel_rfl)) (by unfold Func.isWrapper; first | (rw [if_pos (by decide +kernel)]; kernel_rfl) | (rw [if_neg (by decide +kernel)]; exact ⟨rfl, rfl⟩))
    (fun os started H enc _ F => by rw [OpenClaim.pre_eq_preRow]; exact liftedUpto os started H enc F)
end Go.Proofs.YtaonlobknikbmaaDoor.traitTexts
namespace Go.Proofs.YtaonlobknikbmaaDoor
theorem TraitTextsUptoCardHolds : Rows.TraitTextsUptoCardSaid :=
  Claim7.holds_tied_plain_at .later [] [.data, .data, .pinned] true (true, "55ff07e65b8aeca25131fd7b27191feb037126a25f72327e91356655e4f62dc7") false traitTexts.over (fun _ h => by cases h) (by kernel_rfl) (fun _ h => by cases h) traitTextsUpto_row_tie rfl ⟨rfl, rfl⟩ (by kernel_rfl) rfl
    (fun f fn hf hfn => by
      obtain rfl : f = 5 := Option.some.inj ((show Tryd.prog.funcNamed "gambit/gambitlaw04.TraitTexts" = some 5 by kernel_rfl).symm.trans hf) |>.symm
      obtain rfl : fn = Tryd.f5 := (Option.some.inj (Tryd.func5.symm.trans hfn)).symm
      exact ⟨by kernel_rfl, fun j t ht => by
        rw [Tryd.params5] at ht
        have hm : t ∈ [9] := by simpa using Array.mem_of_getElem? ht
        have hall : ([9].all fun u => !Tryd.prog.wantsStandIn u) = true := by kernel_rfl
        exact (show Tryd.prog.wantsStandIn t = false by simpa using List.all_eq_true.1 hall t hm)⟩)
    (by kernel_rfl)
#print axioms TraitTextsUptoCardHolds
end Go.Proofs.YtaonlobknikbmaaDoor
