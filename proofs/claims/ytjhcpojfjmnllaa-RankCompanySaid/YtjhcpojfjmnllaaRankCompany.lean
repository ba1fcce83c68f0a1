/- The law RankCompany: for every input the call returns true, in whatever memory. No condition. -/
import Derived.Test.YtjhcpojfjmnllaaRows
import Derived.Test.YtjhcpojfjmnllaaSim
import Derived.Laws.Cover1
import Derived.WalkKit
import Derived.ProofKit
import Derived.OpenShut
import Derived.ShutString
import Derived.Below
namespace Go.Proofs.Ytjhcpojfjmnllaa.rankCompany
open Go.ChangeShapes Go.WideShapes Go.ChangeAt Go.RowKit
open Go.ChangeMaps (open_string shut_string)
set_option linter.unusedVariables false

theorem own : ownKnob Try.prog.godebug = none := by kernel_rfl
theorem num : Sim.NumOK Try.prog := Sim.numOK_of (by kernel_rfl)
theorem mixed : Try.prog.follows .mixedOrders = true := by kernel_rfl
theorem pick_any (a m : Int) (w : World) (wf : (Lit.int .i64 a).wf = true) (hm : 0 < m) (hm2 : m ≤ 1000000) :
    Calls Try.prog 13 #[.int .i64 a, .int .i64 m] w fun e w' => ∃ r : Nat, e = .returned (.int .i64 r) ∧ (r : Int) < m ∧ w' = w := by
  have h1 := Int.tmod_lt_of_pos a hm
  have h2 := Int.lt_tmod_of_pos a hm
  have h3 : wrap64 (a.tmod m + m) = a.tmod m + m := by unfold wrap64; omega
  go_enter Try.func13, Try.ntmps13
  go_wp2
  · go_ret
    exact ⟨(a.tmod m + m).toNat, by rw [Int.toNat_of_nonneg (by omega)]; rfl, by rw [Int.toNat_of_nonneg (by omega)]; omega, rfl⟩
  · go_ret
    exact ⟨(a.tmod m).toNat, by rw [Int.toNat_of_nonneg (by assumption)]; rfl, by rw [Int.toNat_of_nonneg (by assumption)]; omega, rfl⟩

/-- what is told of a number: its value, its turn, the error -/
def told : Int → Int × Int × Int
  | .ofNat 0 => (3, 1, 0)
  | .ofNat 1 => (2, 3, 0)
  | .ofNat 2 => (7, 2, 0)
  | .ofNat 3 => (11, 4, 0)
  | .ofNat 4 => (18, 5, 0)
  | _ => (0, 0, 2)
def ans (k : Int) : Value := .tuple #[.int .i64 (told k).1, .int .i64 (told k).2.1, .int .i64 (told k).2.2]

theorem of_ran : ∀ k : Int, (Sim.callF Try.prog 0 60 0 11 [.int .i64 k] (Sim.S0 0)).map Prod.fst = some (ans k)
  | .ofNat 0 => by kernel_rfl
  | .ofNat 1 => by kernel_rfl
  | .ofNat 2 => by kernel_rfl
  | .ofNat 3 => by kernel_rfl
  | .ofNat 4 => by kernel_rfl
  | .ofNat (m + 5) => by kernel_rfl
  | .negSucc m => by kernel_rfl
theorem ref_ran : ∀ k : Int, (Sim.callF Try.prog 0 60 0 14 [.int .i64 k] (Sim.S0 0)).map Prod.fst = some (ans k)
  | .ofNat 0 => by kernel_rfl
  | .ofNat 1 => by kernel_rfl
  | .ofNat 2 => by kernel_rfl
  | .ofNat 3 => by kernel_rfl
  | .ofNat 4 => by kernel_rfl
  | .ofNat (m + 5) => by kernel_rfl
  | .negSucc m => by kernel_rfl
theorem sum_ran : (Sim.callF Try.prog 0 60 0 15 [] (Sim.S0 0)).map Prod.fst = some (.int .i64 41) := by kernel_rfl
theorem lives_ran : (Sim.callF Try.prog 0 60 0 16 [] (Sim.S0 0)).map Prod.fst = some (.bool true) := by kernel_rfl

set_option maxRecDepth 100000 in
set_option maxHeartbeats 1600000 in
theorem walk (a0 : Int) (a1 : Int) (w0 : (Lit.int .i64 a0).wf = true) (w1 : (Lit.int .i64 a1).wf = true) (w : World) : Calls Try.prog 4 #[.int .i64 a0, .int .i64 a1] w fun e w' => e = .returned (.bool true) ∧ Below w.heap.size w w' := by
  have hof := fun wx => Sim.calls_ans num mixed (of_ran a0) rfl rfl wx
  have href := fun wx => Sim.calls_ans num mixed (ref_ran a0) rfl rfl wx
  have hsum := fun wx => Sim.calls_ans num mixed sum_ran rfl rfl wx
  have hliv := fun wx => Sim.calls_ans num mixed lives_ran rfl rfl wx
  unfold ans at hof href
  generalize (told a0).1 = va at hof href
  generalize (told a0).2.1 = vb at hof href
  generalize (told a0).2.2 = vc at hof href
  go_enter Try.func4, Try.ntmps4
  go_wp2_with fail
  refine (pick_any a1 8 _ w1 (by omega) (by omega)).mono ?_
  rintro e wx ⟨r, rfl, hr, h2⟩
  have h2 := h2.symm
  subst h2
  go_wp2_with fail
  refine (href _).mono ?_
  rintro e wa ⟨rfl, hba⟩
  go_wp2_with fail
  go_loopw [9] (fun i wr => ∃ k : Nat, k ≤ 1 + r ∧ i = .int .i64 k ∧ Below w.heap.size w wr) (fun i _ => 1 + r - (intOf i).toNat)
  case atStart => exact ⟨0, by omega, rfl, hba⟩
  case round =>
    obtain ⟨k, hk, rfl, hb⟩ := hrel
    by_cases hkl : k < 1 + r
    · go_wp2_with fail
      refine (hof _).mono ?_
      rintro e wb ⟨rfl, hbb⟩
      have hb2 := hb.trans (hbb.mono hb.size)
      go_wp2_with fail
      refine (hsum _).mono ?_
      rintro e wc ⟨rfl, hbc⟩
      have hb3 := hb2.trans (hbc.mono hb2.size)
      go_wp2
      go_roundw
      case rel => exact ⟨k + 1, by omega, by go_num, hb3⟩
      case measure => simp [intOf]; omega
    · have : k = 1 + r := by omega
      subst this
      go_wp2_with fail
      refine (hliv _).mono ?_
      rintro e wb ⟨rfl, hbb⟩
      go_wp2
      go_ret
      exact ⟨rfl, hb.trans (hbb.mono hb.size)⟩

set_option maxRecDepth 100000 in
theorem lifted (os : Os) (started : os.Started) (H : Type) (enc : TypeId × Value → H) :
    ReturnsInHanded {} Try.checked os 4 .any (Rows.rankCompanySpec.pre6 enc Try.prog Try.f4 Rows.rankCompanyRow.domain false) (Rows.rankCompanySpec.post enc Try.prog Try.f4 false true false false) := by
  refine returnsInHanded_of_change (C := Try.checked) own started (by kernel_rfl) Try.func4
    (ChangeSpec.witness6 (enc := enc) (C := Try.checked) false ⟨#[], #[.int .i64 0, .int .i64 0], []⟩ 8 (by kernel_rfl) (by kernel_rfl) (by kernel_rfl) (by kernel_rfl)) ?_
  intro W base args ds gs before hval0 hW hcnd _
  have hval : ∀ (j : Nat) t v, Try.f4.params[j]? = some t → args[j]? = some v → Value.okWide Try.prog W .any base t v := hval0
  have hW' := hW
  obtain ⟨p, q, hA0, hV, rfl, hfz, hnd⟩ := hW
  have hA : DataW.TrodAll enc Try.prog W 0 (fun _ => true) true Try.f4.params.toList args.toList ds p := hA0
  rw [Try.params4] at hA hval
  obtain ⟨v0, vs0, d0, ds0, p0, q0, hargs, rfl, rfl, h0, r0⟩ := trodAll_cons hA
  obtain ⟨v1, vs1, d1, ds1, p1, q1, rfl, rfl, rfl, h1, r1⟩ := trodAll_cons r0
  obtain ⟨rfl, rfl, rfl⟩ := trodAll_nil r1
  obtain rfl : args = #[v0, v1] := by cases args; simp_all
  obtain ⟨rfl, rfl⟩ := trodVars_none hV
  obtain ⟨a0, rfl, rfl, rfl, w0⟩ := open_int Try.underlying3 (hval 0 3 v0 rfl rfl) h0
  obtain ⟨a1, rfl, rfl, rfl, w1⟩ := open_int Try.underlying3 (hval 1 3 v1 rfl rfl) h1
  clear hA0 hval0
  simp only [List.append_nil] at hW'
  refine (walk a0 a1 w0 w1 W).mono fun e W' ⟨he, bel⟩ => ?_
  subst he
  exact ⟨_, rfl, _, _, _, [], _, [], hW', trodAll_mk1 (shut_bool Try.underlying4 _), (trodAll_cons_mk (shut_int Try.underlying3 w0) (trodAll_cons_mk (shut_int Try.underlying3 w1) trodAll_mk0)), rfl, bel.frame _, fun h => by cases h⟩

theorem over : Rows.rankCompanyRow.holds Try.pinned (OpenSpec.ofChange Rows.rankCompanySpec) :=
  OpenClaim.holds_of_wide 4 Try.f4 rfl rfl rfl rfl rfl rfl rfl ⟨rfl, rfl, rfl, rfl, rfl⟩ rfl rfl rfl rfl rfl (by kernel_rfl) Try.func4 (by kernel_rfl)
    (of_decide_eq_true (by kernel_rfl)) (by unfold Func.isWrapper; first | (rw [if_pos (by decide +kernel)]; kernel_rfl) | (rw [if_neg (by decide +kernel)]; exact ⟨rfl, rfl⟩))
    (fun os started H enc _ => lifted os started H enc)
end Go.Proofs.Ytjhcpojfjmnllaa.rankCompany
namespace Go.Proofs.Ytjhcpojfjmnllaa
theorem RankCompanyHolds : Rows.RankCompanySaid := rankCompany.over
#print axioms RankCompanyHolds
end Go.Proofs.Ytjhcpojfjmnllaa
