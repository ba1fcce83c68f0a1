/- The law WholeStands, whose row lists what package-level variables hold, tied to the program's text: the call returns true: shown by one run of a small executor (text YtecmlefiajhajaaGreatDoorSim) in the kernel, whose answers are proved to be the model's, over the listed variables' cells. No condition but the listed variables. -/
import Derived.Test.YtecmlefiajhajaaGreatDoorRows
import Derived.Test.YtecmlefiajhajaaGreatDoorCards
import Derived.Test.YtecmlefiajhajaaGreatDoorTie
import Derived.Test.YtecmlefiajhajaaGreatDoorSim
import Derived.Test.YtecmlefiajhajaaGreatDoorKn
import Derived.Test.YtecmlefiajhajaaGreatDoorWc
import Derived.WalkKit
import Derived.ProofKit
import Derived.OpenShut
import Derived.Below
import Derived.LaidMore
import Derived.Lay
import Derived.SevenTiedAt
import Derived.Stop.Joined
namespace Go.Proofs.YtecmlefiajhajaaGreatDoor.wholeStands
open Go.ChangeShapes Go.WideShapes Go.ChangeAt Go.RowKit
set_option linter.unusedVariables false

theorem own : ownKnob Tryz.prog.godebug = none := by kernel_rfl
theorem num : Sim.NumOK Tryz.prog := Sim.numOK_of (by kernel_rfl)
theorem mixed : Tryz.prog.follows .mixedOrders = true := by kernel_rfl
set_option maxRecDepth 100000 in
set_option maxHeartbeats 8000000 in
theorem walk (w : World) (hk : Sim.Known 1 kn.gl w) : Calls Tryz.prog 8 #[] w fun e w' => e = .returned (.bool true) ∧ Below w.heap.size w w' := by
  go_enter Tryz.func8, Tryz.ntmps8
  go_wp2_with fail
  refine (ws.c_book _ hk).mono ?_
  rintro e w1 ⟨⟨ba, rfl, BA, hBA, hA⟩, hb1⟩
  have hk1 := wh.knownW hk hb1
  go_wp2_with fail
  refine (ws.c_book _ hk1).mono ?_
  rintro e w2 ⟨⟨bb, rfl, BB, hBB, hB⟩, hb2⟩
  have hA2 := hA.kept hb2
  have hbel2 := hb1.trans (hb2.mono hb1.size)
  have hk2 := wh.knownW hk hbel2
  have hne : ba ≠ bb := ws.apart hA hB hBB
  have hpe := ws.ptr_eql hA2 hB hne
  clear hA hk1 hb2 hne
  have hs1 := hb1.size
  clear hb1
  go_wp2_with fail
  refine (ws.c_rbook _ hk2).mono ?_
  rintro e w3 ⟨⟨br, rfl, BR, hBR, hR⟩, hb3⟩
  have hA3 := hA2.kept hb3
  have hB3 := hB.kept hb3
  have hbel3 := hbel2.trans (hb3.mono hbel2.size)
  clear hA2 hB hb3 hbel2 hk2
  go_wp2_with fail
  refine (ws.c_same hA3 hR).mono ?_
  rintro e w4 ⟨rfl, hb4⟩
  have hA4 := hA3.kept hb4
  have hB4 := hB3.kept hb4
  have hbel4 := hbel3.trans (hb4.mono hbel3.size)
  have hk4 := wh.knownW hk hbel4
  clear hA3 hB3 hb4 hbel3 hR
  go_wp2_with fail
  refine (ws.c_rbook _ hk4).mono ?_
  rintro e w5 ⟨⟨br2, rfl, BR2, hBR2, hR⟩, hb5⟩
  have hA5 := hA4.kept hb5
  have hB5 := hB4.kept hb5
  have hbel5 := hbel4.trans (hb5.mono hbel4.size)
  clear hA4 hB4 hb5 hbel4 hk4
  go_wp2_with fail
  refine (ws.c_same hB5 hR).mono ?_
  rintro e w6 ⟨rfl, hb6⟩
  have hA6 := hA5.kept hb6
  have hB6 := hB5.kept hb6
  have hbel6 := hbel5.trans (hb6.mono hbel5.size)
  clear hA5 hB5 hb6 hbel5 hR
  go_wp2_with fail
  refine (ws.c_bsame hA6 hB6).mono ?_
  rintro e w7 ⟨rfl, hb7⟩
  have hA7 := hA6.kept hb7
  have hbel7 := hbel6.trans (hb7.mono hbel6.size)
  clear hA6 hB6 hb7 hbel6
  go_wp2_with fail
  refine (ws.c_shut hA7).mono ?_
  rintro e w8 ⟨rfl, hA8, hb8⟩
  have hbel8 := hbel7.trans (hb8.mono hBA)
  have hk8 := wh.knownW hk hbel8
  clear hA7 hb8 hbel7
  obtain ⟨h1, h2, h3⟩ := ws.of_lit [0, 1, 2, 3, 4, 5] (by decide)
  have hc : ∀ j, j < 6 → (w8.alloc (.cells #[.int .i64 0, .int .i64 1, .int .i64 2, .int .i64 3, .int .i64 4, .int .i64 5] 3)).cell? ⟨w8.heap.size, j, none⟩ = some (.int .i64 (([0, 1, 2, 3, 4, 5] : List Nat).getD j 0)) := fun j hj => by
    rw [World.cell?_alloc_new]
    have : j = 0 ∨ j = 1 ∨ j = 2 ∨ j = 3 ∨ j = 4 ∨ j = 5 := by omega
    rcases this with rfl | rfl | rfl | rfl | rfl | rfl <;> rfl
  have hbA : Below w8.heap.size w8 (w8.alloc (.cells #[.int .i64 0, .int .i64 1, .int .i64 2, .int .i64 3, .int .i64 4, .int .i64 5] 3)) := (Below.refl _ w8).alloc (Nat.le_refl _) _
  have hsz : w8.heap.size < (w8.alloc (.cells #[.int .i64 0, .int .i64 1, .int .i64 2, .int .i64 3, .int .i64 4, .int .i64 5] 3)).heap.size := by simp
  have hkA := wh.knownW hk8 hbA
  have hA9 := hA8.kept hbA
  have hbel9 := hbel8.trans (hbA.mono hbel8.size)
  obtain ⟨wA, hwA⟩ : ∃ x, x = w8.alloc (.cells #[.int .i64 0, .int .i64 1, .int .i64 2, .int .i64 3, .int .i64 4, .int .i64 5] 3) := ⟨_, rfl⟩
  obtain ⟨bA, hbl⟩ : ∃ x, x = w8.heap.size := ⟨_, rfl⟩
  rw [← hwA] at hc hbA hsz hkA hA9 hbel9
  rw [← hbl] at hc hsz
  go_wp2_with fail
  rw [← hwA, ← hbl]
  refine (wh.c_again [0, 1, 2, 3, 4, 5] h1 h2 h3 ws.up_f rfl bA 6 (by omega) wA hkA hsz hc).mono ?_
  rintro e wB ⟨⟨bc, rfl, BC, hBC, hC⟩, hbB⟩
  have hA10 := hA9.kept hbB
  have hbel10 := hbel9.trans (hbB.mono hbel9.size)
  have hk10 := wh.knownW hk hbel10
  have hpn := ws.ptr_neq hC hA10 (fun h => ws.apart hA9 hC hBC h.symm)
  clear hwA hbl hc h1 h2 h3 hA8 hbel8 hk8 hbA hsz hkA hA9 hbel9 hbB
  go_wp2_with fail
  refine (ws.c_bsame hA10 hC).mono ?_
  rintro e wC ⟨rfl, hb11⟩
  have hbel11 := hbel10.trans (hb11.mono hbel10.size)
  have hk11 := wh.knownW hk hbel11
  clear hA10 hC hb11 hbel10 hk10
  go_wp2_with fail
  refine (ws.c_book _ hk11).mono ?_
  rintro e wD ⟨⟨bd, rfl, BD, hBD, hD⟩, hb12⟩
  have hbel12 := hbel11.trans (hb12.mono hbel11.size)
  have hk12 := wh.knownW hk hbel12
  clear hb12 hbel11 hk11
  go_wp2_with fail
  refine (ws.c_rbook _ hk12).mono ?_
  rintro e wE ⟨⟨be, rfl, BE, hBE, hE⟩, hb13⟩
  have hD2 := hD.kept hb13
  have hbel13 := hbel12.trans (hb13.mono hbel12.size)
  clear hb13 hbel12 hk12 hD
  go_wp2_with fail
  refine (ws.c_same hD2 hE).mono ?_
  rintro e wF ⟨rfl, hb14⟩
  have hbel14 := hbel13.trans (hb14.mono hbel13.size)
  have hk14 := wh.knownW hk hbel14
  clear hb14 hbel13 hD2 hE
  go_wp2_with fail
  refine (ws.c_lives _ hk14).mono ?_
  rintro e wG ⟨rfl, hb15⟩
  have hbel15 := hbel14.trans (hb15.mono hbel14.size)
  clear hb15 hbel14 hk14
  go_wp2
  go_ret
  exact ⟨rfl, hbel15⟩

set_option maxRecDepth 100000 in
theorem lifted (os : Os) (started : os.Started) (H : Type) (enc : TypeId × Value → H) :
    ReturnsInHanded {} Tryz.checked os 8 .any (fun w args => (Rows.wholeStandsSpec.pre enc Tryz.prog Tryz.f8 Rows.wholeStandsRow.domain false w args ∧ laidMetH Tryz.prog Rows.wholeStandsRow.laid w) ∧ sizedMet enc Tryz.prog Tryz.f8 (OpenSpec.ofChange Rows.wholeStandsSpec) false w args)
      (Rows.wholeStandsSpec.post enc Tryz.prog Tryz.f8 false true false false) := by
  refine returnsInHanded_of_change_and (C := Tryz.checked) (X := fun w _ => laidMetH Tryz.prog Rows.wholeStandsRow.laid w) (fun _ _ _ hh h => h.of_heap hh) own started (by kernel_rfl) Tryz.func8
    (ChangeSpec.witness_shaped (enc := enc) (C := Tryz.checked) (os := os) (X := fun w _ => laidMetH Tryz.prog Rows.wholeStandsRow.laid w) false (World.laidAll Tryz.prog os Rows.wholeStandsRow.laid) #[] 8 (World.laidAll_os _ _ _)
      (World.shaped_of_ZipB (by kernel_rfl) (by kernel_rfl)) (by kernel_rfl) (by kernel_rfl) (by kernel_rfl)
      (by rw [MakeChecks.laidMetH_plain _ _ _ (by kernel_rfl)]; exact laidMet_laidAll _ (by kernel_rfl) (by kernel_rfl))) ?_
  intro W base args ds gs before hval0 hW _ _ hL _
  have hval : ∀ (j : Nat) t v, Tryz.f8.params[j]? = some t → args[j]? = some v → Value.okWide Tryz.prog W .any base t v := hval0
  have hW' := hW
  obtain ⟨p, q, hA0, hV, rfl, hfz, hnd⟩ := hW
  have hA : DataW.TrodAll enc Tryz.prog W 0 (fun _ => true) true Tryz.f8.params.toList args.toList ds p := hA0
  rw [Tryz.params8] at hA hval
  obtain ⟨rfl, rfl, rfl⟩ := trodAll_none hA
  obtain ⟨rfl, rfl⟩ := trodVars_none hV
  clear hA0 hval0
  simp only [List.append_nil] at hW'
  refine (walk W (kn.known3 rfl rfl hL)).mono fun e W' ⟨he, bel⟩ => ?_
  subst he
  exact ⟨_, rfl, _, _, _, [], [], [], hW', trodAll_mk1 (shut_bool Tryz.underlying4 _), trodAll_mk0, rfl, bel.frame _, fun h => by cases h⟩

theorem over : Rows.wholeStandsRow.holds Tryz.pinned (OpenSpec.ofChange Rows.wholeStandsSpec) :=
  OpenClaim.holds_of_wide 8 Tryz.f8 rfl rfl rfl rfl rfl rfl rfl ⟨rfl, rfl, rfl, rfl, rfl⟩ rfl rfl rfl rfl rfl (by kernel_rfl) Tryz.func8 (by kernel_rfl)
    (of_decide_eq_true (by kernel_rfl)) (by unfold Func.isWrapper; first | (rw [if_pos (by decide +kernel)]; kernel_rfl) | (rw [if_neg (by decide +kernel)]; exact ⟨rfl, rfl⟩))
    (fun os started H enc _ => lifted os started H enc)
end Go.Proofs.YtecmlefiajhajaaGreatDoor.wholeStands
namespace Go.Proofs.YtecmlefiajhajaaGreatDoor
theorem WholeStandsCardHolds : Rows.WholeStandsCardSaid :=
  Claim7.holds_tied_plain_at .later [] [.data, .data, .pinned] true (true, "1abcdf3bde55cf0cf6563ac3d4721f7f4065351a883545310eb66ddb6c9b0853") false wholeStands.over (fun _ h => by cases h) (by kernel_rfl) (fun _ h => by cases h) wholeStands_row_tie rfl ⟨rfl, rfl⟩ (by kernel_rfl) rfl
    (fun f fn hf hfn => by
      obtain rfl : f = 8 := Option.some.inj ((show Tryz.prog.funcNamed "gambit/gambitlaw14.WholeStands" = some 8 by kernel_rfl).symm.trans hf) |>.symm
      obtain rfl : fn = Tryz.f8 := (Option.some.inj (Tryz.func8.symm.trans hfn)).symm
      exact ⟨by kernel_rfl, fun j t ht => by
        rw [Tryz.params8] at ht
        simp at ht⟩)
    (by kernel_rfl)
#print axioms WholeStandsCardHolds
end Go.Proofs.YtecmlefiajhajaaGreatDoor
