/- The law TraitSets: for every input the call returns true, in whatever memory. No condition but the listed variables. -/
import Derived.Test.YtfafaeghnkmpcaaDoorRows
import Derived.Test.YtfafaeghnkmpcaaDoorCards
import Derived.Test.YtfafaeghnkmpcaaDoorTie
import Derived.Test.YtfafaeghnkmpcaaDoorSim
import Derived.Test.YtfafaeghnkmpcaaDoorKn
import Derived.Test.YtfafaeghnkmpcaaDoorTb
import Derived.Test.YtfafaeghnkmpcaaDoorTs
import Derived.Laws.Cover1
import Derived.WalkKit
import Derived.ProofKit
import Derived.OpenShut
import Derived.ShutString
import Derived.Below
import Derived.LaidMore
import Derived.Lay
import Derived.SevenTiedAt
import Derived.Stop.Joined
namespace Go.Proofs.YtfafaeghnkmpcaaDoor.traitSets
open Go.ChangeShapes Go.WideShapes Go.ChangeAt Go.RowKit
open Go.ChangeMaps (open_string shut_string)
set_option linter.unusedVariables false

theorem own : ownKnob Tryd.prog.godebug = none := by kernel_rfl
theorem num : Sim.NumOK Tryd.prog := Sim.numOK_of (by kernel_rfl)
theorem mixed : Tryd.prog.follows .mixedOrders = true := by kernel_rfl
set_option maxRecDepth 100000 in
set_option maxHeartbeats 6400000 in
theorem walk (a0 : Int) (a1 : Int) (w0 : (Lit.int .u16 a0).wf = true) (w1 : (Lit.int .u8 a1).wf = true) (w : World) (hk : Sim.Known 2 kn.gl w) : Calls Tryd.prog 9 #[.int .u16 a0, .int .u8 a1] w fun e w' => e = .returned (.bool true) ∧ Below w.heap.size w w' := by
  have hx1 := tb.u8wf w1
  obtain ⟨v, rfl⟩ := tb.u16v w0
  clear w0 w1
  obtain ⟨s1, hs1⟩ : ∃ s, ts.nmF a1 = s := ⟨_, rfl⟩
  obtain ⟨s2, hs2⟩ : ∃ s, ts.hmF a1 = s := ⟨_, rfl⟩
  obtain ⟨s3, hs3⟩ : ∃ s, ts.txF a1 = s := ⟨_, rfl⟩
  obtain ⟨t, ht⟩ : ∃ t, tb.hasF v a1 = t := ⟨_, rfl⟩
  obtain ⟨a, ha⟩ : ∃ a, v ||| tb.ub a1 = a := ⟨_, rfl⟩
  obtain ⟨b, hb⟩ : ∃ b, v &&& ~~~ tb.ub a1 = b := ⟨_, rfl⟩
  obtain ⟨q, hq⟩ : ∃ q, tb.chkF v = q := ⟨_, rfl⟩
  obtain ⟨p, hp⟩ : ∃ p, ts.prF v = p := ⟨_, rfl⟩
  go_enter Tryd.func9, Tryd.ntmps9
  go_wp2_with fail
  refine (ts.name_eq hs1 hx1.1 hk).mono ?_
  rintro e w1' ⟨rfl, hn1⟩
  have hb1 := hn1
  have hk1 := ts.known_below hk hb1
  go_wp2_with fail
  refine (ts.rname_eq hs1 hx1.1 hk1).mono ?_
  rintro e w2' ⟨rfl, hn2⟩
  have hb2 := hb1.trans (hn2.mono hb1.size)
  have hk2 := ts.known_below hk hb2
  go_wp2_with fail
  refine (ts.home_eq hs2 hx1.1 hk2).mono ?_
  rintro e w3' ⟨rfl, hn3⟩
  have hb3 := hb2.trans (hn3.mono hb2.size)
  have hk3 := ts.known_below hk hb3
  go_wp2_with fail
  refine (ts.rhome_eq hs2 hx1.1 hk3).mono ?_
  rintro e w4' ⟨rfl, hn4⟩
  have hb4 := hb3.trans (hn4.mono hb3.size)
  have hk4 := ts.known_below hk hb4
  go_wp2_with fail
  refine (ts.text_eq hs3 hx1.1 hk4).mono ?_
  rintro e w5' ⟨rfl, hn5⟩
  have hb5 := hb4.trans (hn5.mono hb4.size)
  have hk5 := ts.known_below hk hb5
  go_wp2_with fail
  refine (ts.rtext_eq hs3 hx1.1 hk5).mono ?_
  rintro e w6' ⟨rfl, hn6⟩
  have hb6 := hb5.trans (hn6.mono hb5.size)
  have hk6 := ts.known_below hk hb6
  go_wp2_with fail
  refine (tb.has_eq ht hx1.1 _).mono ?_
  rintro e w' ⟨rfl, rfl⟩
  go_wp2_with fail
  refine (ts.rhas_eq ht hx1.1 _).mono ?_
  rintro e w' ⟨rfl, rfl⟩
  go_wp2_with fail
  refine (tb.with_eq ha hx1.1 _).mono ?_
  rintro e w' ⟨rfl, rfl⟩
  go_wp2_with fail
  refine (ts.rwith_eq ha hx1.1 _).mono ?_
  rintro e w' ⟨rfl, rfl⟩
  go_wp2_with fail
  refine (tb.without_eq hb hx1.1 _).mono ?_
  rintro e w' ⟨rfl, rfl⟩
  go_wp2_with fail
  refine (ts.rwithout_eq hb hx1.1 _).mono ?_
  rintro e w' ⟨rfl, rfl⟩
  go_wp2_with fail
  refine (tb.chk_eq hq _).mono ?_
  rintro e w' ⟨rfl, rfl⟩
  go_wp2_with fail
  refine (ts.rchk_eq hq _).mono ?_
  rintro e w' ⟨rfl, rfl⟩
  clear hn1 hn2 hn3 hn4 hn5 hn6 hb1 hb2 hb3 hb4 hb5 hk1 hk2 hk3 hk4 hk5
  go_wp2_with fail
  refine (tb.list_calls v _).mono ?_
  rintro e wA ⟨⟨uA, rfl, hownA⟩, hbA⟩
  have hA := ts.TI.of_owns hownA
  have hbelA := hb6.trans (hbA.mono hb6.size)
  have hloA := hb6.size
  have hszA := hbA.size
  clear hownA
  go_wp2_with fail
  refine (tb.list_calls v _).mono ?_
  rintro e wB ⟨⟨uB, rfl, hownB⟩, hbB⟩
  have hB := ts.TI.of_owns hownB
  have hA2 := hA.grown (ts.grown_of_below hbB) (fun b h => by cases h)
  have hszB := hbB.size
  have hbelB := hbelA.trans (hbB.mono hbelA.size)
  clear hownB
  go_wp2_with fail
  refine (ts.rlist_calls v _).mono ?_
  rintro e wC ⟨⟨uC, rfl, hownC⟩, hbC⟩
  have hC := ts.TI.of_owns hownC
  have hA3 := hA2.grown (ts.grown_of_below hbC) (fun b h => by cases h)
  have hB3 := hB.grown (ts.grown_of_below hbC) (fun b h => by cases h)
  have hszC := hbC.size
  have hbelC := hbelB.trans (hbC.mono hbelB.size)
  clear hownC hB hA2
  obtain ⟨L, hL⟩ : ∃ L, tb.tl v 8 = L := ⟨_, rfl⟩
  rw [hL] at hA hA3 hB3 hC
  obtain ⟨ao, cA, rfl, hcA, hmx⟩ := hA
  obtain ⟨bo, cB, hBeq, hcB, _⟩ := id hB3
  obtain ⟨co, cC, hCeq, hcC, _⟩ := id hC
  subst hBeq
  subst hCeq
  clear hcB hcC
  unfold maxLen at hmx
  go_wp2_with fail
  refine (ts.same_true L _ _ _ _ _ hA3 hC).mono ?_
  rintro e wD ⟨rfl, hdD⟩
  have hgD := hdD.grown none
  have hBD := hB3.grown hgD (fun b h => by cases h)
  have hCD := hC.grown hgD (fun b h => by cases h)
  have hbelD := hbelC.grown hgD hbelC.size (fun j hj => by cases hj)
  go_wp2_with fail
  refine (ts.same_true L _ _ _ _ _ hBD hCD).mono ?_
  rintro e wE ⟨rfl, hdE⟩
  have hgE := hdE.grown none
  have hBE := hBD.grown hgE (fun b h => by cases h)
  have hCE := hCD.grown hgE (fun b h => by cases h)
  have hbelE := hbelD.grown hgE hbelD.size (fun j hj => by cases hj)
  have hkE := ts.known_below hk hbelE
  go_wp2_with fail
  refine (ts.print_eq hp hkE).mono ?_
  rintro e wF ⟨rfl, hbF⟩
  have hgF := ts.grown_of_below hbF
  have hBF := hBE.grown hgF (fun b h => by cases h)
  have hCF := hCE.grown hgF (fun b h => by cases h)
  have hbelF := hbelE.trans (hbF.mono hbelE.size)
  have hkF := ts.known_below hk hbelF
  go_wp2_with fail
  refine (ts.rprint_eq hp hkF).mono ?_
  rintro e wz ⟨rfl, hbz⟩
  have hgz := ts.grown_of_below hbz
  have hBz := hBF.grown hgz (fun b h => by cases h)
  have hCz := hCF.grown hgz (fun b h => by cases h)
  have hbelz := hbelF.trans (hbz.mono hbelF.size)
  have hgAz : wA.grownBy wz none := ts.grown_trans (ts.grown_trans (ts.grown_trans (ts.grown_trans (ts.grown_trans (ts.grown_of_below hbB) (ts.grown_of_below hbC)) hgD) hgE) hgF) hgz
  have hszz := hgAz.size
  clear hA3 hB3 hC hBD hCD hBE hCE hBF hCF hbelA hbelB hbelC hbelD hbelE hbelF hkE hkF hbF hbz hgF hgz hgD hgE hdD hdE
  obtain ⟨n, hn⟩ : ∃ n, L.length = n := ⟨_, rfl⟩
  rw [hn] at hcA hmx hBz hCz ⊢
  by_cases h0 : n = 0
  · subst h0
    go_wp2
    go_loop [10] (fun i => i = .int .i64 0) (fun _ => 0)
    case atStart => rfl
    case round =>
      subst hrel
      go_wp2_with fail
      refine (ts.same_true L _ _ _ _ _ hBz hCz).mono ?_
      rintro e wG ⟨rfl, hdG⟩
      have hgG := hdG.grown none
      have hCG := (hCz).grown hgG (fun b h => by cases h)
      have hbelG := (hbelz).grown hgG (hbelz).size (fun j hj => by cases hj)
      go_wp2_with fail
      refine (tb.list_calls v _).mono ?_
      rintro e wH ⟨⟨uH, rfl, hownH⟩, hbH⟩
      have hH := ts.TI.of_owns hownH
      rw [hL] at hH
      have hCH := hCG.grown (ts.grown_of_below hbH) (fun b h => by cases h)
      have hbelH := hbelG.trans (hbH.mono hbelG.size)
      obtain ⟨ho, cH, hHeq, hcH, _⟩ := id hH
      subst hHeq
      clear hcH hownH
      rw [hn] at hH ⊢
      go_wp2_with fail
      refine (ts.same_true L _ _ _ _ _ hH hCH).mono ?_
      rintro e wI ⟨rfl, hdI⟩
      have hbelI := hbelH.grown (hdI.grown none) hbelH.size (fun j hj => by cases hj)
      go_wp2
      go_ret
      exact ⟨rfl, hbelI⟩

  · obtain ⟨ba, rfl, hlo, hhi, hfro, hcell⟩ := hcA 0 (by omega)
    have hblk := hgAz.block ba hhi (by simp)
    have hz : ∀ j, j < n → ∃ u, wz.cell? ⟨ba, j, none⟩ = some u := fun j hj => ⟨_, (World.cell?_of_block (w := wA) (a := ⟨ba, j, none⟩) hblk).trans (hcell j hj)⟩
    have hf : ∀ j, wz.frozen? ⟨ba, j, none⟩ = false := fun j => (World.frozen?_of_block (w := wA) (a := ⟨ba, j, none⟩) hblk).trans (hfro j)
    clear hcA hcell hfro hblk
    go_wp2
    go_loopw [10] (fun i wr => ∃ k : Nat, k ≤ n ∧ i = .int .i64 k ∧ wz.grownBy wr (some ba) ∧ (∀ j, j < n → ∃ u, wr.cell? ⟨ba, j, none⟩ = some u) ∧ ∀ j, wr.frozen? ⟨ba, j, none⟩ = false) (fun i _ => n - (intOf i).toNat)
    case atStart => exact ⟨0, by omega, rfl, ts.grown_refl _ _, hz, hf⟩
    case round =>
      clear hz hf
      obtain ⟨k, hkn, rfl, hg, hz, hf⟩ := hrel
      by_cases hlt : k < n
      · obtain ⟨u, hu⟩ := hz k hlt
        have hfk := hf k
        have hz2 := ts.set_cells hz k (.int .u8 99)
        have hf2 : ∀ j, (wr.setCell ⟨ba, k, none⟩ (.int .u8 99)).frozen? ⟨ba, j, none⟩ = false := fun j => by simp only [World.frozen?_setCell]; exact hf j
        have hg2 := ts.grown_trans hg (ts.grown_setCell (kb := ba) wr k (.int .u8 99))
        clear hz hf
        go_wp2
        go_roundw
        case rel => exact ⟨k + 1, by omega, by go_num, hg2, hz2, hf2⟩
        case measure => simp [intOf]; omega
      · have : k = n := by omega
        subst this
        have hBw := hBz.grown hg (fun b h => by cases h; exact hhi)
        have hCw := hCz.grown hg (fun b h => by cases h; omega)
        have hbelw := hbelz.grown hg hbelz.size (fun j hj => by cases hj; omega)
        clear hz hf
        go_wp2_with fail
        refine (ts.same_true L _ _ _ _ _ hBw hCw).mono ?_
        rintro e wG ⟨rfl, hdG⟩
        have hgG := hdG.grown none
        have hCG := (hCw).grown hgG (fun b h => by cases h)
        have hbelG := (hbelw).grown hgG (hbelw).size (fun j hj => by cases hj)
        go_wp2_with fail
        refine (tb.list_calls v _).mono ?_
        rintro e wH ⟨⟨uH, rfl, hownH⟩, hbH⟩
        have hH := ts.TI.of_owns hownH
        rw [hL] at hH
        have hCH := hCG.grown (ts.grown_of_below hbH) (fun b h => by cases h)
        have hbelH := hbelG.trans (hbH.mono hbelG.size)
        obtain ⟨ho, cH, hHeq, hcH, _⟩ := id hH
        subst hHeq
        clear hcH hownH
        rw [hn] at hH ⊢
        go_wp2_with fail
        refine (ts.same_true L _ _ _ _ _ hH hCH).mono ?_
        rintro e wI ⟨rfl, hdI⟩
        have hbelI := hbelH.grown (hdI.grown none) hbelH.size (fun j hj => by cases hj)
        go_wp2
        go_ret
        exact ⟨rfl, hbelI⟩


set_option maxRecDepth 100000 in
theorem lifted (os : Os) (started : os.Started) (H : Type) (enc : TypeId × Value → H) :
    ReturnsInHanded {} Tryd.checked os 9 .any (fun w args => (Rows.traitSetsSpec.pre enc Tryd.prog Tryd.f9 Rows.traitSetsRow.domain false w args ∧ laidMetH Tryd.prog Rows.traitSetsRow.laid w) ∧ sizedMet enc Tryd.prog Tryd.f9 (OpenSpec.ofChange Rows.traitSetsSpec) false w args)
      (Rows.traitSetsSpec.post enc Tryd.prog Tryd.f9 false true false false) := by
  refine returnsInHanded_of_change_and (C := Tryd.checked) (X := fun w _ => laidMetH Tryd.prog Rows.traitSetsRow.laid w) (fun _ _ _ hh h => h.of_heap hh) own started (by kernel_rfl) Tryd.func9
    (ChangeSpec.witness_shaped (enc := enc) (C := Tryd.checked) (os := os) (X := fun w _ => laidMetH Tryd.prog Rows.traitSetsRow.laid w) false (World.laidAll Tryd.prog os Rows.traitSetsRow.laid) #[.int .u16 0, .int .u8 0] 8 (World.laidAll_os _ _ _)
      (World.shaped_of_ZipB (by kernel_rfl) (by kernel_rfl)) (by kernel_rfl) (by kernel_rfl) (by kernel_rfl)
      (by rw [MakeChecks.laidMetH_plain _ _ _ (by kernel_rfl)]; exact laidMet_laidAll _ (by kernel_rfl) (by kernel_rfl))) ?_
  intro W base args ds gs before hval0 hW _ _ hL _
  have hval : ∀ (j : Nat) t v, Tryd.f9.params[j]? = some t → args[j]? = some v → Value.okWide Tryd.prog W .any base t v := hval0
  have hW' := hW
  obtain ⟨p, q, hA0, hV, rfl, hfz, hnd⟩ := hW
  have hA : DataW.TrodAll enc Tryd.prog W 0 (fun _ => true) true Tryd.f9.params.toList args.toList ds p := hA0
  rw [Tryd.params9] at hA hval
  obtain ⟨v0, vs0, d0, ds0, p0, q0, hargs, rfl, rfl, h0, r0⟩ := trodAll_cons hA
  obtain ⟨v1, vs1, d1, ds1, p1, q1, rfl, rfl, rfl, h1, r1⟩ := trodAll_cons r0
  obtain ⟨rfl, rfl, rfl⟩ := trodAll_nil r1
  obtain rfl : args = #[v0, v1] := by cases args; simp_all
  obtain ⟨rfl, rfl⟩ := trodVars_none hV
  obtain ⟨a0, rfl, rfl, rfl, w0⟩ := open_int Tryd.underlying42 (hval 0 42 v0 rfl rfl) h0
  obtain ⟨a1, rfl, rfl, rfl, w1⟩ := open_int Tryd.underlying5 (hval 1 5 v1 rfl rfl) h1
  clear hA0 hval0
  simp only [List.append_nil] at hW'
  refine (walk a0 a1 w0 w1 W (kn.known1 hL)).mono fun e W' ⟨he, bel⟩ => ?_
  subst he
  exact ⟨_, rfl, _, _, _, [], _, [], hW', trodAll_mk1 (shut_bool Tryd.underlying4 _), (trodAll_cons_mk (shut_int Tryd.underlying42 w0) (trodAll_cons_mk (shut_int Tryd.underlying5 w1) trodAll_mk0)), rfl, bel.frame _, fun h => by cases h⟩

theorem over : Rows.traitSetsRow.holds Tryd.pinned (OpenSpec.ofChange Rows.traitSetsSpec) :=
  OpenClaim.holds_of_wide 9 Tryd.f9 rfl rfl rfl rfl rfl rfl rfl ⟨rfl, rfl, rfl, rfl, rfl⟩ rfl rfl rfl rfl rfl (by kernel_rfl) Tryd.func9 (by kernel_rfl)
    (of_decide_eq_true (by kernel_rfl)) (by unfold Func.isWrapper; first | (rw [if_pos (by decide +kernel)]; kernel_rfl) | (rw [if_neg (by decide +kernel)]; exact ⟨rfl, rfl⟩))
    (fun os started H enc _ => lifted os started H enc)
end Go.Proofs.YtfafaeghnkmpcaaDoor.traitSets
namespace Go.Proofs.YtfafaeghnkmpcaaDoor
theorem TraitSetsCardHolds : Rows.TraitSetsCardSaid :=
  Claim7.holds_tied_plain_at .later [] [.data] true (true, "5bf5157a3c9dbc0ba1e6cc4757f1931556121a62a74905c6d62330b8621eb1be") false traitSets.over (fun _ h => by cases h) (by kernel_rfl) (fun _ h => by cases h) traitSets_row_tie rfl ⟨rfl, rfl⟩ (by kernel_rfl) rfl
    (fun f fn hf hfn => by
      obtain rfl : f = 9 := Option.some.inj ((show Tryd.prog.funcNamed "gambit/gambitlaw04.TraitSets" = some 9 by kernel_rfl).symm.trans hf) |>.symm
      obtain rfl : fn = Tryd.f9 := (Option.some.inj (Tryd.func9.symm.trans hfn)).symm
      exact ⟨by kernel_rfl, fun j t ht => by
        rw [Tryd.params9] at ht
        have hm : t ∈ [42, 5] := by simpa using Array.mem_of_getElem? ht
        have hall : ([42, 5].all fun u => !Tryd.prog.wantsStandIn u) = true := by kernel_rfl
        exact (show Tryd.prog.wantsStandIn t = false by simpa using List.all_eq_true.1 hall t hm)⟩)
    (by kernel_rfl)
#print axioms TraitSetsCardHolds
end Go.Proofs.YtfafaeghnkmpcaaDoor
