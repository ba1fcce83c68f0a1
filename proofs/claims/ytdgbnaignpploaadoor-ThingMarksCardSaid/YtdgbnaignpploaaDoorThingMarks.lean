/- The law ThingMarks: for every input the call returns true, in whatever memory. No condition but the listed variables. -/
import Derived.Test.YtdgbnaignpploaaDoorRows
import Derived.Test.YtdgbnaignpploaaDoorCards
import Derived.Test.YtdgbnaignpploaaDoorTie
import Derived.Test.YtdgbnaignpploaaDoorT3
import Derived.Test.YtdgbnaignpploaaDoorJ5
import Derived.Test.YtdgbnaignpploaaDoorJ0
import Derived.WalkKit
import Derived.ProofKit
import Derived.OpenShut
import Derived.ShutString
import Derived.ChangeOld
import Derived.Below
import Derived.LaidMore
import Derived.Lay
import Derived.SevenTiedAt
import Derived.Stop.Joined
namespace Go.Proofs.YtdgbnaignpploaaDoor.thingMarks
open Go.ChangeShapes Go.WideShapes Go.ChangeAt Go.RowKit
set_option linter.unusedVariables false
set_option linter.unusedSimpArgs false

theorem own : ownKnob Tryd.prog.godebug = none := by kernel_rfl
theorem laidOut : laidOutB Tryd.prog = true := by kernel_rfl

set_option maxRecDepth 100000 in
theorem lifted (os : Os) (started : os.Started) (H : Type) (enc : TypeId × Value → H) :
    ReturnsInHanded {} Tryd.checked os 3 .any (fun w args => (Rows.thingMarksSpec.pre enc Tryd.prog Tryd.f3 Rows.thingMarksRow.domain false w args ∧ laidMetH Tryd.prog Rows.thingMarksRow.laid w) ∧ sizedMet enc Tryd.prog Tryd.f3 (OpenSpec.ofChange Rows.thingMarksSpec) false w args)
      (Rows.thingMarksSpec.post enc Tryd.prog Tryd.f3 false true false false) := by
  refine returnsInHanded_of_change_and (C := Tryd.checked) (X := fun w _ => laidMetH Tryd.prog Rows.thingMarksRow.laid w) (fun _ _ _ hh h => h.of_heap hh) own started (by kernel_rfl) Tryd.func3
    (ChangeSpec.witness_shaped (enc := enc) (C := Tryd.checked) (os := os) (X := fun w _ => laidMetH Tryd.prog Rows.thingMarksRow.laid w) false (World.laidAll Tryd.prog os Rows.thingMarksRow.laid) #[.agg #[.slice none 0 0, .slice none 0 0, .bool false], .agg #[.int .i64 0, .int .u8 0, .int .u16 0, .int .i64 0, .int .i64 0], .agg #[.int .i64 0, .int .i64 0, .int .i64 0, .int .i64 0], .agg #[.int .i64 0, .int .i64 0, .int .u8 0, .int .i64 0, .int .i64 0, .int .i64 0, .int .i64 0, .int .i64 0, .int .i64 0, .int .i64 0, .bool false]] 8 (World.laidAll_os _ _ _)
      (World.shaped_of_ZipB (by kernel_rfl) (by kernel_rfl)) (by kernel_rfl) (by kernel_rfl) (by kernel_rfl)
      (by rw [MakeChecks.laidMetH_plain _ _ _ (by kernel_rfl)]; exact laidMet_laidAll _ (by kernel_rfl) (by kernel_rfl))) ?_
  intro W base args ds gs before hval0 hW _ hwt0 hL _
  have hwt := hwt0
  clear hwt0
  have hval : ∀ (j : Nat) t v, Tryd.f3.params[j]? = some t → args[j]? = some v → Value.okWide Tryd.prog W .any base t v := hval0
  have hW' := hW
  obtain ⟨p, q, hA0, hV, rfl, hfz, hnd⟩ := hW
  have hA : DataW.TrodAll enc Tryd.prog W 0 (fun _ => true) true Tryd.f3.params.toList args.toList ds p := hA0
  rw [Tryd.params3] at hA hval hwt
  obtain ⟨v0, vs0, d0, ds0, p0, q0, hargs, rfl, rfl, h0, r0⟩ := trodAll_cons hA
  obtain ⟨v1, vs1, d1, ds1, p1, q1, rfl, rfl, rfl, h1, r1⟩ := trodAll_cons r0
  obtain ⟨v2, vs2, d2, ds2, p2, q2, rfl, rfl, rfl, h2, r2⟩ := trodAll_cons r1
  obtain ⟨v3, vs3, d3, ds3, p3, q3, rfl, rfl, rfl, h3, r3⟩ := trodAll_cons r2
  obtain ⟨rfl, rfl, rfl⟩ := trodAll_nil r3
  obtain rfl : args = #[v0, v1, v2, v3] := by cases args; simp_all
  obtain ⟨rfl, rfl⟩ := trodVars_none hV
  have k0 := h0
  have lt0 : ∀ x ∈ p0, x.block < W.heap.size := by obtain ⟨m, hm⟩ := k0; exact DataW.trod_lt m _ _ _ hm
  have k1 := h1
  have lt1 : ∀ x ∈ p1, x.block < W.heap.size := by obtain ⟨m, hm⟩ := k1; exact DataW.trod_lt m _ _ _ hm
  have k2 := h2
  have lt2 : ∀ x ∈ p2, x.block < W.heap.size := by obtain ⟨m, hm⟩ := k2; exact DataW.trod_lt m _ _ _ hm
  have k3 := h3
  have lt3 : ∀ x ∈ p3, x.block < W.heap.size := by obtain ⟨m, hm⟩ := k3; exact DataW.trod_lt m _ _ _ hm
  obtain ⟨⟨cs0⟩, rfl, -⟩ := okWide_struct Tryd.underlying25 (hval 0 25 v0 rfl rfl)
  obtain ⟨fuel0, hf0⟩ := h0
  have w0 : ∀ z ∈ d0.weights Tryd.prog 25, z ≤ reachBytes := fun z hz => of_decide_eq_true (List.all_eq_true.1 hwt z (Sym.w_each (i := 0) (t := 25) (d := d0) rfl rfl hz))
  obtain ⟨co0, cc0, cards0, mo0, mc0, marks0, op0, e0, hC0, hM0, uC0, uM0, lC0, lM0⟩ := bk.open_kfill hf0 w0
  have e0 : cs0 = _ := e0
  subst e0
  obtain ⟨⟨cs1⟩, rfl, -⟩ := okWide_struct Tryd.underlying30 (hval 1 30 v1 rfl rfl)
  obtain ⟨fuel1, hf1⟩ := h1
  obtain ⟨f1, e1⟩ := bk.open_feature hf1
  have e1 : cs1 = _ := e1
  subst e1
  obtain ⟨⟨cs2⟩, rfl⟩ := bk.okWide_array Tryd.underlying31 (hval 2 31 v2 rfl rfl)
  obtain ⟨fuel2, hf2⟩ := h2
  obtain ⟨l2, e2, n2⟩ := bk.open_four hf2
  have e2 : cs2 = _ := e2
  subst e2
  obtain ⟨⟨cs3⟩, rfl, -⟩ := okWide_struct Tryd.underlying34 (hval 3 34 v3 rfl rfl)
  obtain ⟨fuel3, hf3⟩ := h3
  obtain ⟨f3, e3, n3⟩ := bk.open_thing hf3
  have e3 : cs3 = _ := e3
  subst e3
  clear hA0 hval0
  simp only [List.append_nil] at hW'
  refine (Sym.Does.calls (w := W) (Q := fun v => v = .bool true) (bk.d_thingMarks op0 hC0 hM0 uC0 uM0 lC0 lM0 f1 n2 f3.cells (bk.TKc.len n3) f3.single f3.hu f3.hurt)).mono fun e W' ⟨v, he, hv, bel⟩ => ?_
  subst he hv
  exact ⟨_, rfl, _, _, _, [], _, [], hW', trodAll_mk1 (shut_bool Tryd.underlying4 _), (trodAll_cons_mk (Below.trod laidOut (by kernel_rfl) (of_decide_eq_true (by kernel_rfl)) k0 bel lt0) (trodAll_cons_mk (Below.trod laidOut (by kernel_rfl) (of_decide_eq_true (by kernel_rfl)) k1 bel lt1) (trodAll_cons_mk (Below.trod laidOut (by kernel_rfl) (of_decide_eq_true (by kernel_rfl)) k2 bel lt2) (trodAll_cons_mk (Below.trod laidOut (by kernel_rfl) (of_decide_eq_true (by kernel_rfl)) k3 bel lt3) trodAll_mk0)))), by first | rfl | simp, bel.frame _, fun h => by cases h⟩

theorem over : Rows.thingMarksRow.holds Tryd.pinned (OpenSpec.ofChange Rows.thingMarksSpec) :=
  OpenClaim.holds_of_wide 3 Tryd.f3 rfl rfl rfl rfl rfl rfl rfl ⟨rfl, rfl, rfl, rfl, rfl⟩ rfl rfl rfl rfl rfl (by kernel_rfl) Tryd.func3 (by kernel_rfl)
    (of_decide_eq_true (by kernel_rfl)) (by unfold Func.isWrapper; first | (rw [if_pos (by decide +kernel)]; kernel_rfl) | (rw [if_neg (by decide +kernel)]; exact ⟨rfl, rfl⟩))
    (fun os started H enc _ => lifted os started H enc)
end Go.Proofs.YtdgbnaignpploaaDoor.thingMarks
namespace Go.Proofs.YtdgbnaignpploaaDoor
theorem ThingMarksCardHolds : Rows.ThingMarksCardSaid :=
  Claim7.holds_tied_plain_at .later [] [.data, .pinned] true (true, "0e1d041c6531edc598290538a8d6bcc3d0e7402dbb126a7940586b61abd8b9ec") false thingMarks.over (fun _ h => by cases h) (by kernel_rfl) (fun _ h => by cases h) thingMarks_row_tie rfl ⟨rfl, rfl⟩ (by kernel_rfl) rfl
    (fun f fn hf hfn => by
      obtain rfl : f = 3 := Option.some.inj ((show Tryd.prog.funcNamed "gambit/gambitlaw18.ThingMarks" = some 3 by kernel_rfl).symm.trans hf) |>.symm
      obtain rfl : fn = Tryd.f3 := (Option.some.inj (Tryd.func3.symm.trans hfn)).symm
      exact ⟨by kernel_rfl, fun j t ht => by
        rw [Tryd.params3] at ht
        have hm : t ∈ [25, 30, 31, 34] := by simpa using Array.mem_of_getElem? ht
        have hall : ([25, 30, 31, 34].all fun u => !Tryd.prog.wantsStandIn u) = true := by kernel_rfl
        exact (show Tryd.prog.wantsStandIn t = false by simpa using List.all_eq_true.1 hall t hm)⟩)
    (by kernel_rfl)
#print axioms ThingMarksCardHolds
end Go.Proofs.YtdgbnaignpploaaDoor
