/- The law RankCalls: for every input the call returns true, in whatever memory. No condition. -/
import Derived.Test.YtjhcpojfjmnllaaRows
import Derived.Test.YtjhcpojfjmnllaaSim
import Derived.Laws.Cover1
import Derived.Test.YtjhcpojfjmnllaaPl
import Derived.Test.YtjhcpojfjmnllaaFd
import Derived.WalkKit
import Derived.ProofKit
import Derived.OpenShut
import Derived.ShutString
import Derived.Below
namespace Go.Proofs.Ytjhcpojfjmnllaa.rankCalls
open Go.ChangeShapes Go.WideShapes Go.ChangeAt Go.RowKit
open Go.ChangeMaps (open_string shut_string)
set_option linter.unusedVariables false

theorem own : ownKnob Try.prog.godebug = none := by kernel_rfl
theorem num : Sim.NumOK Try.prog := Sim.numOK_of (by kernel_rfl)
theorem mixed : Try.prog.follows .mixedOrders = true := by kernel_rfl
/-- what is told of a number: its value, its turn, the error -/
def told : Int → Int × Int × Int
  | .ofNat 0 => (3, 1, 0)
  | .ofNat 1 => (2, 3, 0)
  | .ofNat 2 => (7, 2, 0)
  | .ofNat 3 => (11, 4, 0)
  | .ofNat 4 => (18, 5, 0)
  | _ => (0, 0, 2)
def ans (k : Int) : Value := .tuple #[.int .i64 (told k).1, .int .i64 (told k).2.1, .int .i64 (told k).2.2]

theorem of_ran : ∀ k : Int, (Sim.callF Try.prog 0 60 0 11 [.int .i64 k] (Sim.S0 0)).map Prod.fst = some (ans k)
  | .ofNat 0 => by kernel_rfl
  | .ofNat 1 => by kernel_rfl
  | .ofNat 2 => by kernel_rfl
  | .ofNat 3 => by kernel_rfl
  | .ofNat 4 => by kernel_rfl
  | .ofNat (m + 5) => by kernel_rfl
  | .negSucc m => by kernel_rfl
theorem ref_ran : ∀ k : Int, (Sim.callF Try.prog 0 60 0 14 [.int .i64 k] (Sim.S0 0)).map Prod.fst = some (ans k)
  | .ofNat 0 => by kernel_rfl
  | .ofNat 1 => by kernel_rfl
  | .ofNat 2 => by kernel_rfl
  | .ofNat 3 => by kernel_rfl
  | .ofNat 4 => by kernel_rfl
  | .ofNat (m + 5) => by kernel_rfl
  | .negSucc m => by kernel_rfl
theorem sum_ran : (Sim.callF Try.prog 0 60 0 15 [] (Sim.S0 0)).map Prod.fst = some (.int .i64 41) := by kernel_rfl
theorem lives_ran : (Sim.callF Try.prog 0 60 0 16 [] (Sim.S0 0)).map Prod.fst = some (.bool true) := by kernel_rfl
def found (j : Nat) : Value := .tuple #[.int .i64 j, .bool true]
theorem find0 : (Sim.callF Try.prog 0 60 0 30 [.string ⟨#[108, 111, 119]⟩] (Sim.S0 0)).map Prod.fst = some (found 0) := by kernel_rfl
theorem find1 : (Sim.callF Try.prog 0 60 0 30 [.string ⟨#[115, 116, 101, 112]⟩] (Sim.S0 0)).map Prod.fst = some (found 1) := by kernel_rfl
theorem find2 : (Sim.callF Try.prog 0 60 0 30 [.string ⟨#[109, 105, 100]⟩] (Sim.S0 0)).map Prod.fst = some (found 2) := by kernel_rfl
theorem find3 : (Sim.callF Try.prog 0 60 0 30 [.string ⟨#[104, 105, 103, 104]⟩] (Sim.S0 0)).map Prod.fst = some (found 3) := by kernel_rfl
theorem find4 : (Sim.callF Try.prog 0 60 0 30 [.string ⟨#[116, 111, 112]⟩] (Sim.S0 0)).map Prod.fst = some (found 4) := by kernel_rfl
theorem refd0 : (Sim.callF Try.prog 0 60 0 33 [.string ⟨#[108, 111, 119]⟩] (Sim.S0 0)).map Prod.fst = some (found 0) := by kernel_rfl
theorem refd1 : (Sim.callF Try.prog 0 60 0 33 [.string ⟨#[115, 116, 101, 112]⟩] (Sim.S0 0)).map Prod.fst = some (found 1) := by kernel_rfl
theorem refd2 : (Sim.callF Try.prog 0 60 0 33 [.string ⟨#[109, 105, 100]⟩] (Sim.S0 0)).map Prod.fst = some (found 2) := by kernel_rfl
theorem refd3 : (Sim.callF Try.prog 0 60 0 33 [.string ⟨#[104, 105, 103, 104]⟩] (Sim.S0 0)).map Prod.fst = some (found 3) := by kernel_rfl
theorem refd4 : (Sim.callF Try.prog 0 60 0 33 [.string ⟨#[116, 111, 112]⟩] (Sim.S0 0)).map Prod.fst = some (found 4) := by kernel_rfl

/-- both tell the same of a name -/
theorem both (name : ByteArray) : ∃ (g : Int) (b : Bool), (∀ w, Calls Try.prog 30 #[.string name] w fun e w' => e = .returned (.tuple #[.int .i64 g, .bool b]) ∧ Below w.heap.size w w') ∧
    ∀ w, Calls Try.prog 33 #[.string name] w fun e w' => e = .returned (.tuple #[.int .i64 g, .bool b]) ∧ Below w.heap.size w w' := by
  by_cases h : ∃ j, j < 5 ∧ name = strs.getD j ByteArray.empty
  · obtain ⟨j, hj, rfl⟩ := h
    have : j = 0 ∨ j = 1 ∨ j = 2 ∨ j = 3 ∨ j = 4 := by omega
    rcases this with rfl | rfl | rfl | rfl | rfl
    · exact ⟨0, true, fun w => Sim.calls_ans num mixed find0 rfl rfl w, fun w => Sim.calls_ans num mixed refd0 rfl rfl w⟩
    · exact ⟨1, true, fun w => Sim.calls_ans num mixed find1 rfl rfl w, fun w => Sim.calls_ans num mixed refd1 rfl rfl w⟩
    · exact ⟨2, true, fun w => Sim.calls_ans num mixed find2 rfl rfl w, fun w => Sim.calls_ans num mixed refd2 rfl rfl w⟩
    · exact ⟨3, true, fun w => Sim.calls_ans num mixed find3 rfl rfl w, fun w => Sim.calls_ans num mixed refd3 rfl rfl w⟩
    · exact ⟨4, true, fun w => Sim.calls_ans num mixed find4 rfl rfl w, fun w => Sim.calls_ans num mixed refd4 rfl rfl w⟩
  · have hno : ∀ j, j < 5 → (name.toList == (strs.getD j ByteArray.empty).toList) = false := by
      intro j hj
      rw [Bool.eq_false_iff]
      intro he
      refine h ⟨j, hj, bytes_inj ?_⟩
      have := eq_of_beq he
      rwa [ByteArray.toList_eq, ByteArray.toList_eq] at this
    exact ⟨0, false, fun w => find_no name w hno, fun w => refFind_no name w hno⟩

set_option maxRecDepth 100000 in
set_option maxHeartbeats 1600000 in
theorem walk (a0 : Int) (a1 : ByteArray) (a2 : Int) (w0 : (Lit.int .i64 a0).wf = true) (w1 : a1.size ≤ maxLen) (w2 : (Lit.int .i64 a2).wf = true) (w : World) : Calls Try.prog 10 #[.int .i64 a0, .string a1, .int .i64 a2] w fun e w' => e = .returned (.bool true) ∧ Below w.heap.size w w' := by
  have hof := fun wx => Sim.calls_ans num mixed (of_ran a0) rfl rfl wx
  have href := fun wx => Sim.calls_ans num mixed (ref_ran a0) rfl rfl wx
  have hsum := fun wx => Sim.calls_ans num mixed sum_ran rfl rfl wx
  have hrsum := fun wx => Sim.calls_ans num mixed refSum_ran rfl rfl wx
  have hliv := fun wx => Sim.calls_ans num mixed lives_ran rfl rfl wx
  have hpl := fun wx => Sim.calls_ans num mixed (place_ran a2) rfl rfl wx
  have hrpl := fun wx => Sim.calls_ans num mixed (refPlace_ran a2) rfl rfl wx
  obtain ⟨g, b, hfi, hrfi⟩ := both a1
  unfold ans at hof href
  unfold placed at hpl hrpl
  generalize (told a0).1 = va at hof href
  generalize (told a0).2.1 = vb at hof href
  generalize (told a0).2.2 = vc at hof href
  generalize (place a2).1 = vp at hpl hrpl
  generalize (place a2).2 = vq at hpl hrpl
  go_enter Try.func10, Try.ntmps10
  go_wp2_with fail
  refine (hof _).mono ?_
  rintro e w3 ⟨rfl, hb3⟩
  go_wp2_with fail
  refine (href _).mono ?_
  rintro e w4 ⟨rfl, hb4⟩
  have hb4 := hb3.trans (hb4.mono hb3.size)
  go_wp2_with fail
  refine (hfi _).mono ?_
  rintro e w5 ⟨rfl, hb5⟩
  have hb5 := hb4.trans (hb5.mono hb4.size)
  go_wp2_with fail
  refine (hrfi _).mono ?_
  rintro e w6 ⟨rfl, hb6⟩
  have hb6 := hb5.trans (hb6.mono hb5.size)
  go_wp2_with fail
  refine (hpl _).mono ?_
  rintro e w7 ⟨rfl, hb7⟩
  have hb7 := hb6.trans (hb7.mono hb6.size)
  go_wp2_with fail
  refine (hrpl _).mono ?_
  rintro e w8 ⟨rfl, hb8⟩
  have hb8 := hb7.trans (hb8.mono hb7.size)
  go_wp2_with fail
  refine (hsum _).mono ?_
  rintro e w9 ⟨rfl, hb9⟩
  have hb9 := hb8.trans (hb9.mono hb8.size)
  go_wp2_with fail
  refine (hrsum _).mono ?_
  rintro e wa ⟨rfl, hba⟩
  have hba := hb9.trans (hba.mono hb9.size)
  go_wp2_with fail
  refine (hliv _).mono ?_
  rintro e wb ⟨rfl, hbb⟩
  have hbb := hba.trans (hbb.mono hba.size)
  rename_i k2 h2 k1 h1 x9 xa k0 h0 xb
  have hrest : ∀ (a : Act) (w' : World), a.tmps.size = 135 → a.defers = [] → Below w.heap.size w w' → k2 a w' := fun a w' hsz hd hb =>
    h2 a w' (Sim.tail_true (n := 60) (nt := 135) num mixed rfl (by kernel_rfl) hsz hd (fun w'' h => ⟨rfl, hb.trans (h.mono hb.size)⟩))
  clear h2
  go_wp2
  exact hrest _ _ rfl rfl hbb

set_option maxRecDepth 100000 in
theorem lifted (os : Os) (started : os.Started) (H : Type) (enc : TypeId × Value → H) :
    ReturnsInHanded {} Try.checked os 10 .any (Rows.rankCallsSpec.pre6 enc Try.prog Try.f10 Rows.rankCallsRow.domain false) (Rows.rankCallsSpec.post enc Try.prog Try.f10 false true false false) := by
  refine returnsInHanded_of_change (C := Try.checked) own started (by kernel_rfl) Try.func10
    (ChangeSpec.witness6 (enc := enc) (C := Try.checked) false ⟨#[], #[.int .i64 0, .string (ByteArray.mk #[]), .int .i64 0], []⟩ 8 (by kernel_rfl) (by kernel_rfl) (by kernel_rfl) (by kernel_rfl)) ?_
  intro W base args ds gs before hval0 hW hcnd _
  have hval : ∀ (j : Nat) t v, Try.f10.params[j]? = some t → args[j]? = some v → Value.okWide Try.prog W .any base t v := hval0
  have hW' := hW
  obtain ⟨p, q, hA0, hV, rfl, hfz, hnd⟩ := hW
  have hA : DataW.TrodAll enc Try.prog W 0 (fun _ => true) true Try.f10.params.toList args.toList ds p := hA0
  rw [Try.params10] at hA hval
  obtain ⟨v0, vs0, d0, ds0, p0, q0, hargs, rfl, rfl, h0, r0⟩ := trodAll_cons hA
  obtain ⟨v1, vs1, d1, ds1, p1, q1, rfl, rfl, rfl, h1, r1⟩ := trodAll_cons r0
  obtain ⟨v2, vs2, d2, ds2, p2, q2, rfl, rfl, rfl, h2, r2⟩ := trodAll_cons r1
  obtain ⟨rfl, rfl, rfl⟩ := trodAll_nil r2
  obtain rfl : args = #[v0, v1, v2] := by cases args; simp_all
  obtain ⟨rfl, rfl⟩ := trodVars_none hV
  obtain ⟨a0, rfl, rfl, rfl, w0⟩ := open_int Try.underlying3 (hval 0 3 v0 rfl rfl) h0
  obtain ⟨a1, rfl, rfl, rfl, w1⟩ := open_string Try.underlying9 (hval 1 9 v1 rfl rfl) h1
  obtain ⟨a2, rfl, rfl, rfl, w2⟩ := open_int Try.underlying3 (hval 2 3 v2 rfl rfl) h2
  clear hA0 hval0
  simp only [List.append_nil] at hW'
  refine (walk a0 a1 a2 w0 w1 w2 W).mono fun e W' ⟨he, bel⟩ => ?_
  subst he
  exact ⟨_, rfl, _, _, _, [], _, [], hW', trodAll_mk1 (shut_bool Try.underlying4 _), (trodAll_cons_mk (shut_int Try.underlying3 w0) (trodAll_cons_mk (shut_string Try.underlying9 w1) (trodAll_cons_mk (shut_int Try.underlying3 w2) trodAll_mk0))), rfl, bel.frame _, fun h => by cases h⟩

theorem over : Rows.rankCallsRow.holds Try.pinned (OpenSpec.ofChange Rows.rankCallsSpec) :=
  OpenClaim.holds_of_wide 10 Try.f10 rfl rfl rfl rfl rfl rfl rfl ⟨rfl, rfl, rfl, rfl, rfl⟩ rfl rfl rfl rfl rfl (by kernel_rfl) Try.func10 (by kernel_rfl)
    (of_decide_eq_true (by kernel_rfl)) (by unfold Func.isWrapper; first | (rw [if_pos (by decide +kernel)]; kernel_rfl) | (rw [if_neg (by decide +kernel)]; exact ⟨rfl, rfl⟩))
    (fun os started H enc _ => lifted os started H enc)
end Go.Proofs.Ytjhcpojfjmnllaa.rankCalls
namespace Go.Proofs.Ytjhcpojfjmnllaa
theorem RankCallsHolds : Rows.RankCallsSaid := rankCalls.over
#print axioms RankCallsHolds
end Go.Proofs.Ytjhcpojfjmnllaa
