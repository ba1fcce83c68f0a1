/- The law WaterCards: the call returns true, in whatever memory: shown by one run of a small executor (text YtfafaeghnkmpcaaSim) in the kernel, whose answers are proved to be the model's. No condition. -/
import Derived.Test.YtfafaeghnkmpcaaRows
import Derived.Test.YtfafaeghnkmpcaaSim
import Derived.Test.YtfafaeghnkmpcaaAp
import Derived.WalkKit
import Derived.ProofKit
import Derived.OpenShut
import Derived.Below
namespace Go.Proofs.Ytfafaeghnkmpcaa.waterCards
open Go.ChangeShapes Go.WideShapes Go.ChangeAt Go.RowKit
set_option linter.unusedVariables false

theorem own : ownKnob Try.prog.godebug = none := by kernel_rfl
theorem num : Sim.NumOK Try.prog := Sim.numOK_of (by kernel_rfl)
theorem mixed : Try.prog.follows .mixedOrders = true := by kernel_rfl
noncomputable def hook : Sim.CallT := Sim.hookF Try.prog (Sim.callF Try.prog 0 60) 0 18 4 48 9
theorem hookOK : Sim.CallOK Try.prog 0 hook := Sim.hookF_ok num mixed (Sim.callF_ok num mixed 0 60) (by decide) (fn := Try.f18) (c := Try.f18.body.getD .skip) Try.func18 rfl ac.rear
theorem ran : Sim.isTrue (Sim.callH Try.prog hook 0 60 0 6 [] (Sim.S0 0)) = true := by kernel_rfl

theorem walk (w : World) : Calls Try.prog 6 #[] w fun e w' => e = .returned (.bool true) ∧ Below w.heap.size w w' :=
  Sim.callsH_true num mixed hookOK ran rfl w

set_option maxRecDepth 100000 in
theorem lifted (os : Os) (started : os.Started) (H : Type) (enc : TypeId × Value → H) :
    ReturnsInHanded {} Try.checked os 6 .any (Rows.waterCardsSpec.pre6 enc Try.prog Try.f6 Rows.waterCardsRow.domain false) (Rows.waterCardsSpec.post enc Try.prog Try.f6 false true false false) := by
  refine returnsInHanded_of_change (C := Try.checked) own started (by kernel_rfl) Try.func6
    (ChangeSpec.witness6 (enc := enc) (C := Try.checked) false ⟨#[], #[], []⟩ 8 (by kernel_rfl) (by kernel_rfl) (by kernel_rfl) (by kernel_rfl)) ?_
  intro W base args ds gs before hval0 hW hcnd _
  have hval : ∀ (j : Nat) t v, Try.f6.params[j]? = some t → args[j]? = some v → Value.okWide Try.prog W .any base t v := hval0
  have hW' := hW
  obtain ⟨p, q, hA0, hV, rfl, hfz, hnd⟩ := hW
  have hA : DataW.TrodAll enc Try.prog W 0 (fun _ => true) true Try.f6.params.toList args.toList ds p := hA0
  rw [Try.params6] at hA hval
  obtain ⟨rfl, rfl, rfl⟩ := trodAll_none hA
  obtain ⟨rfl, rfl⟩ := trodVars_none hV
  clear hA0 hval0
  simp only [List.append_nil] at hW'
  refine (walk W).mono fun e W' ⟨he, bel⟩ => ?_
  subst he
  exact ⟨_, rfl, _, _, _, [], [], [], hW', trodAll_mk1 (shut_bool Try.underlying4 _), trodAll_mk0, rfl, bel.frame _, fun h => by cases h⟩

theorem over : Rows.waterCardsRow.holds Try.pinned (OpenSpec.ofChange Rows.waterCardsSpec) :=
  OpenClaim.holds_of_wide 6 Try.f6 rfl rfl rfl rfl rfl rfl rfl ⟨rfl, rfl, rfl, rfl, rfl⟩ rfl rfl rfl rfl rfl (by kernel_rfl) Try.func6 (by kernel_rfl)
    (of_decide_eq_true (by kernel_rfl)) (by unfold Func.isWrapper; first | (rw [if_pos (by decide +kernel)]; kernel_rfl) | (rw [if_neg (by decide +kernel)]; exact ⟨rfl, rfl⟩))
    (fun os started H enc _ => lifted os started H enc)
end Go.Proofs.Ytfafaeghnkmpcaa.waterCards
namespace Go.Proofs.Ytfafaeghnkmpcaa
theorem WaterCardsHolds : Rows.WaterCardsSaid := waterCards.over
#print axioms WaterCardsHolds
end Go.Proofs.Ytfafaeghnkmpcaa
