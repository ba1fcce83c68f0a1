/- The law WholeTells, whose row lists what package-level variables hold, tied to the program's text: the call returns true: shown by one run of a small executor (text YtecmlefiajhajaaGreatDoorSim) in the kernel, whose answers are proved to be the model's, over the listed variables' cells. No condition but the listed variables. -/
import Derived.Test.YtecmlefiajhajaaGreatDoorRows
import Derived.Test.YtecmlefiajhajaaGreatDoorCards
import Derived.Test.YtecmlefiajhajaaGreatDoorTie
import Derived.Test.YtecmlefiajhajaaGreatDoorSim
import Derived.Test.YtecmlefiajhajaaGreatDoorKn
import Derived.Test.YtecmlefiajhajaaGreatDoorRt
import Derived.Test.YtecmlefiajhajaaGreatDoorAt
import Derived.WalkKit
import Derived.ProofKit
import Derived.OpenShut
import Derived.Below
import Derived.LaidMore
import Derived.RegionTactic
import Derived.BigRegion
import Derived.OwnWalk
import Derived.Deep.CutBlock
import Derived.Lay
import Derived.SevenTiedAt
import Derived.Stop.Joined
namespace Go.Proofs.YtecmlefiajhajaaGreatDoor.wholeTells
open Go.ChangeShapes Go.WideShapes Go.ChangeAt Go.RowKit
set_option linter.unusedVariables false

theorem own : ownKnob Tryz.prog.godebug = none := by kernel_rfl
theorem num : Sim.NumOK Tryz.prog := Sim.numOK_of (by kernel_rfl)
theorem mixed : Tryz.prog.follows .mixedOrders = true := by kernel_rfl
theorem c_apart2 {w : World} {b1 c1 b2 c2 : Nat} (k1 : Sim.WholeB w 9 1 (b1, 6, c1)) (k2 : Sim.WholeB w 9 1 (b2, 6, c2)) (hne : b1 ≠ b2) :
    Calls Tryz.prog 37 #[.slice (some ⟨w.heap.size, 0, none⟩) 2 2] (w.alloc (.cells #[.slice (some ⟨b1, 0, none⟩) 6 c1, .slice (some ⟨b2, 0, none⟩) 6 c2] 86)) fun e w' => e = .returned (.bool true) ∧ Sim.Spoils [b1, b2] w w' := by
  have hA : Below w.heap.size w (w.alloc (.cells #[.slice (some ⟨b1, 0, none⟩) 6 c1, .slice (some ⟨b2, 0, none⟩) 6 c2] 86)) := (Below.refl _ w).alloc (Nat.le_refl _) _
  obtain ⟨cs1, e1, f1⟩ := k1
  obtain ⟨cs2, e2, f2⟩ := k2
  have l1 := (Array.getElem?_eq_some_iff.1 e1).1
  have l2 := (Array.getElem?_eq_some_iff.1 e2).1
  refine (att.apart _ w.heap.size 0 2 [(b1, 6, c1), (b2, 6, c2)] ⟨fun i x hx => ?_, fun x hx => ?_, by simpa using hne, fun x hx => ?_, by simp⟩ (by simp) (by simp)).mono fun e w' ⟨he, hs⟩ => ⟨he, (Sim.Spoils.of_below _ hA).trans hs⟩
  · rw [Nat.zero_add, World.cell?_alloc_new]
    match i, hx with
    | 0, hx => cases hx; rfl
    | 1, hx => cases hx; rfl
    | n + 2, hx => simp at hx
  · rcases List.mem_cons.1 hx with rfl | hx
    · exact ⟨cs1, (hA.block _ l1).trans e1, f1⟩
    · obtain rfl := List.mem_singleton.1 hx
      exact ⟨cs2, (hA.block _ l2).trans e2, f2⟩
  · rcases List.mem_cons.1 hx with rfl | hx
    · show b1 ≠ _; omega
    · obtain rfl := List.mem_singleton.1 hx
      show b2 ≠ _; omega

theorem six_of {w : World} {b cap : Nat} (h : Sim.WholeB w 9 1 (b, 6, cap)) (hc : ∀ j, j < 6 → w.cell? ⟨b, j, none⟩ = some (.string ((tk.six[j]?).getD ⟨#[]⟩))) : nu.SixAt w b cap := by
  obtain ⟨cs, h1, h2, h3, h4⟩ := h
  exact ⟨h3, (Array.getElem?_eq_some_iff.1 h1).1, hc⟩
theorem whole_kept {w w' : World} {x : Nat × Nat × Nat} (h : Sim.WholeB w 9 1 x) (hb : w'.heap[x.1]? = w.heap[x.1]?) : Sim.WholeB w' 9 1 x := by
  obtain ⟨cs, h1, h2⟩ := h
  exact ⟨cs, hb.trans h1, h2⟩

set_option maxRecDepth 100000 in
set_option maxHeartbeats 8000000 in
theorem walk (w : World) (hk : Sim.Known 1 kn.gl w) : Calls Tryz.prog 6 #[] w fun e w' => e = .returned (.bool true) ∧ Below w.heap.size w w' := by
  go_enter Tryz.func6, Tryz.ntmps6
  go_wp2
  go_loopw [1] (fun i wr => ∃ k : Nat, k ≤ 2 ∧ i = .int .i64 k ∧ Below w.heap.size w wr) (fun i _ => 2 - (intOf i).toNat)
  case atStart => exact ⟨0, by omega, rfl, Below.refl _ _⟩
  case round =>
    obtain ⟨k, hk2, rfl, hbel⟩ := hrel
    have hkr := wh.knownW hk hbel
    by_cases hlt : k < 2
    · have hd : decide ((k : Int) < 2) = true := decide_eq_true (by omega)
      go_wp2_with fail
      refine (nu.c_nums _ hkr).mono ?_
      rintro e w2 ⟨⟨mb, rfl, hmlo, hmhi, hM⟩, hb2⟩
      have hbel2 := hbel.trans (hb2.mono hbel.size)
      have hk2r := wh.knownW hk hbel2
      have hlen := nu.run_len hM
      have hmw : w.heap.size ≤ mb := Nat.le_trans hbel.size hmlo
      clear hkr hbel hb2 hmlo
      go_wp2
      clear hlen
      go_loopw [19] (fun j ws2 => ∃ m : Nat, m ≤ 6 ∧ j = .int .i64 m ∧ Below w2.heap.size w2 ws2) (fun j _ => 6 - (intOf j).toNat)
      case atStart => exact ⟨0, by omega, rfl, Below.refl _ _⟩
      case round =>
        obtain ⟨m, hm, rfl, hbs⟩ := hrel
        obtain ⟨ws2, hws⟩ : ∃ x, x = wr := ⟨_, rfl⟩
        subst hws
        have hMs := nu.IsMap.kept hM (hbs.block mb hmhi)
        have hks := wh.knownW hk2r hbs
        by_cases hm6 : m < 6
        · have : m = 0 ∨ m = 1 ∨ m = 2 ∨ m = 3 ∨ m = 4 ∨ m = 5 := by omega
          clear hm hm6 hM
          rcases this with rfl | rfl | rfl | rfl | rfl | rfl
          · have hn := nu.c_num ws2 hks 0 ⟨#[97, 105, 114]⟩ 27 rfl
            have hix : Sem.run Tryz.prog (Instr.index 88 (Value.agg #[Value.string ⟨#[97, 105, 114]⟩, Value.string ⟨#[101, 97, 114, 116, 104]⟩, Value.string ⟨#[102, 105, 114, 101]⟩, Value.string ⟨#[119, 97, 116, 101, 114]⟩, Value.string ⟨#[118, 111, 105, 100]⟩, Value.string ⟨#[103, 111, 108, 100]⟩]) (Value.int IntKind.i64 0)) ws2 = .ok (.string ⟨#[97, 105, 114]⟩) ws2 := by kernel_rfl
            go_wp2_with fail
            refine hn.mono ?_
            rintro e w3 ⟨rfl, hb3⟩
            have hM3 := nu.IsMap.kept hMs (hb3.block mb (Nat.lt_of_lt_of_le hmhi hbs.size))
            have hl3 := nu.run_lookup hM3 (s := ⟨#[97, 105, 114]⟩) (n := 27) (by kernel_rfl)
            have hbs3 := hbs.trans (hb3.mono hbs.size)
            clear hn hMs hix
            go_wp2
            go_roundw
            case rel => exact ⟨0 + 1, by omega, by go_num, hbs3⟩
            case measure => simp [intOf]
          · have hn := nu.c_num ws2 hks 1 ⟨#[101, 97, 114, 116, 104]⟩ 31 rfl
            have hix : Sem.run Tryz.prog (Instr.index 88 (Value.agg #[Value.string ⟨#[97, 105, 114]⟩, Value.string ⟨#[101, 97, 114, 116, 104]⟩, Value.string ⟨#[102, 105, 114, 101]⟩, Value.string ⟨#[119, 97, 116, 101, 114]⟩, Value.string ⟨#[118, 111, 105, 100]⟩, Value.string ⟨#[103, 111, 108, 100]⟩]) (Value.int IntKind.i64 1)) ws2 = .ok (.string ⟨#[101, 97, 114, 116, 104]⟩) ws2 := by kernel_rfl
            go_wp2_with fail
            refine hn.mono ?_
            rintro e w3 ⟨rfl, hb3⟩
            have hM3 := nu.IsMap.kept hMs (hb3.block mb (Nat.lt_of_lt_of_le hmhi hbs.size))
            have hl3 := nu.run_lookup hM3 (s := ⟨#[101, 97, 114, 116, 104]⟩) (n := 31) (by kernel_rfl)
            have hbs3 := hbs.trans (hb3.mono hbs.size)
            clear hn hMs hix
            go_wp2
            go_roundw
            case rel => exact ⟨1 + 1, by omega, by go_num, hbs3⟩
            case measure => simp [intOf]
          · have hn := nu.c_num ws2 hks 2 ⟨#[102, 105, 114, 101]⟩ 68 rfl
            have hix : Sem.run Tryz.prog (Instr.index 88 (Value.agg #[Value.string ⟨#[97, 105, 114]⟩, Value.string ⟨#[101, 97, 114, 116, 104]⟩, Value.string ⟨#[102, 105, 114, 101]⟩, Value.string ⟨#[119, 97, 116, 101, 114]⟩, Value.string ⟨#[118, 111, 105, 100]⟩, Value.string ⟨#[103, 111, 108, 100]⟩]) (Value.int IntKind.i64 2)) ws2 = .ok (.string ⟨#[102, 105, 114, 101]⟩) ws2 := by kernel_rfl
            go_wp2_with fail
            refine hn.mono ?_
            rintro e w3 ⟨rfl, hb3⟩
            have hM3 := nu.IsMap.kept hMs (hb3.block mb (Nat.lt_of_lt_of_le hmhi hbs.size))
            have hl3 := nu.run_lookup hM3 (s := ⟨#[102, 105, 114, 101]⟩) (n := 68) (by kernel_rfl)
            have hbs3 := hbs.trans (hb3.mono hbs.size)
            clear hn hMs hix
            go_wp2
            go_roundw
            case rel => exact ⟨2 + 1, by omega, by go_num, hbs3⟩
            case measure => simp [intOf]
          · have hn := nu.c_num ws2 hks 3 ⟨#[119, 97, 116, 101, 114]⟩ 51 rfl
            have hix : Sem.run Tryz.prog (Instr.index 88 (Value.agg #[Value.string ⟨#[97, 105, 114]⟩, Value.string ⟨#[101, 97, 114, 116, 104]⟩, Value.string ⟨#[102, 105, 114, 101]⟩, Value.string ⟨#[119, 97, 116, 101, 114]⟩, Value.string ⟨#[118, 111, 105, 100]⟩, Value.string ⟨#[103, 111, 108, 100]⟩]) (Value.int IntKind.i64 3)) ws2 = .ok (.string ⟨#[119, 97, 116, 101, 114]⟩) ws2 := by kernel_rfl
            go_wp2_with fail
            refine hn.mono ?_
            rintro e w3 ⟨rfl, hb3⟩
            have hM3 := nu.IsMap.kept hMs (hb3.block mb (Nat.lt_of_lt_of_le hmhi hbs.size))
            have hl3 := nu.run_lookup hM3 (s := ⟨#[119, 97, 116, 101, 114]⟩) (n := 51) (by kernel_rfl)
            have hbs3 := hbs.trans (hb3.mono hbs.size)
            clear hn hMs hix
            go_wp2
            go_roundw
            case rel => exact ⟨3 + 1, by omega, by go_num, hbs3⟩
            case measure => simp [intOf]
          · have hn := nu.c_num ws2 hks 4 ⟨#[118, 111, 105, 100]⟩ 147 rfl
            have hix : Sem.run Tryz.prog (Instr.index 88 (Value.agg #[Value.string ⟨#[97, 105, 114]⟩, Value.string ⟨#[101, 97, 114, 116, 104]⟩, Value.string ⟨#[102, 105, 114, 101]⟩, Value.string ⟨#[119, 97, 116, 101, 114]⟩, Value.string ⟨#[118, 111, 105, 100]⟩, Value.string ⟨#[103, 111, 108, 100]⟩]) (Value.int IntKind.i64 4)) ws2 = .ok (.string ⟨#[118, 111, 105, 100]⟩) ws2 := by kernel_rfl
            go_wp2_with fail
            refine hn.mono ?_
            rintro e w3 ⟨rfl, hb3⟩
            have hM3 := nu.IsMap.kept hMs (hb3.block mb (Nat.lt_of_lt_of_le hmhi hbs.size))
            have hl3 := nu.run_lookup hM3 (s := ⟨#[118, 111, 105, 100]⟩) (n := 147) (by kernel_rfl)
            have hbs3 := hbs.trans (hb3.mono hbs.size)
            clear hn hMs hix
            go_wp2
            go_roundw
            case rel => exact ⟨4 + 1, by omega, by go_num, hbs3⟩
            case measure => simp [intOf]
          · have hn := nu.c_num ws2 hks 5 ⟨#[103, 111, 108, 100]⟩ 215 rfl
            have hix : Sem.run Tryz.prog (Instr.index 88 (Value.agg #[Value.string ⟨#[97, 105, 114]⟩, Value.string ⟨#[101, 97, 114, 116, 104]⟩, Value.string ⟨#[102, 105, 114, 101]⟩, Value.string ⟨#[119, 97, 116, 101, 114]⟩, Value.string ⟨#[118, 111, 105, 100]⟩, Value.string ⟨#[103, 111, 108, 100]⟩]) (Value.int IntKind.i64 5)) ws2 = .ok (.string ⟨#[103, 111, 108, 100]⟩) ws2 := by kernel_rfl
            go_wp2_with fail
            refine hn.mono ?_
            rintro e w3 ⟨rfl, hb3⟩
            have hM3 := nu.IsMap.kept hMs (hb3.block mb (Nat.lt_of_lt_of_le hmhi hbs.size))
            have hl3 := nu.run_lookup hM3 (s := ⟨#[103, 111, 108, 100]⟩) (n := 215) (by kernel_rfl)
            have hbs3 := hbs.trans (hb3.mono hbs.size)
            clear hn hMs hix
            go_wp2
            go_roundw
            case rel => exact ⟨5 + 1, by omega, by go_num, hbs3⟩
            case measure => simp [intOf]
        · have : m = 6 := by omega
          subst this
          obtain ⟨w4, hup, hM4, hg4⟩ := nu.run_update hMs
          obtain ⟨w5, hdel, hg5⟩ := nu.run_delete hM4 0
          have hbel4 := (hbel2.trans (hbs.mono hbel2.size)).grown hg4 (Nat.le_trans hbel2.size hbs.size) (fun j e => by cases e; exact hmw)
          have hbel5 := hbel4.grown hg5 hbel4.size (fun j e => by cases e; exact hmw)
          have hk5 := wh.knownW hk hbel5
          clear hMs hM hM4 hks hk2r hg4 hg5 hbel4 hbs
          unfold nu.air at hup
          unfold nu.gold at hdel
          go_wp2_with fail
          refine (tk.c_tokens _ hk5).mono ?_
          rintro e w6 ⟨⟨tb, tc, rfl, htlo, hW6, hc6⟩, hb6⟩
          have hbel6 := hbel5.trans (hb6.mono hbel5.size)
          have hS6 := six_of hW6 hc6
          have htw := Nat.le_trans hbel5.size htlo
          have hk6 := wh.knownW hk hbel6
          clear hk5 hbel5 hb6 htlo hc6 hup hdel
          go_wp2_with fail
          refine (nu.c_rtok _ hk6).mono ?_
          rintro e w7 ⟨⟨rb, rc, rfl, hS7⟩, hb7⟩
          have hbel7 := hbel6.trans (hb7.mono hbel6.size)
          have hlt6 := hS6.2.1
          have hT7 := nu.SixAt.kept hS6 (hb7.block tb hlt6) hb7.size
          have hW7 := whole_kept hW6 (hb7.block tb hlt6)
          clear hk6 hbel6 hS6 hW6 hlt6 hb7
          go_wp2_with fail
          refine (nu.c_same6 hT7 hS7).mono ?_
          rintro e w8 ⟨rfl, hb8⟩
          have hbel8 := hbel7.trans (hb8.mono hbel7.size)
          have hlt7 := hT7.2.1
          have hW8 := whole_kept hW7 (hb8.block tb hlt7)
          have hk8 := wh.knownW hk hbel8
          have hlt8 := Nat.lt_of_lt_of_le hlt7 hb8.size
          clear hbel7 hT7 hW7 hS7 hb8 hlt7
          go_wp2_with fail
          refine (tk.c_tokens _ hk8).mono ?_
          rintro e w9 ⟨⟨ub, uc, rfl, hulo, hU9, -⟩, hb9⟩
          have hbel9 := hbel8.trans (hb9.mono hbel8.size)
          have hW9 := whole_kept hW8 (hb9.block tb hlt8)
          have huw := Nat.le_trans hbel8.size hulo
          have hne : tb ≠ ub := by omega
          clear hk8 hbel8 hW8 hb9
          have hap := c_apart2 hW9 hU9 hne
          go_wp2_with fail
          refine hap.mono ?_
          rintro e wA ⟨rfl, hsp⟩
          have hbelA := hbel9.trans (hsp.below hbel9.size (fun b hb => by
            rcases List.mem_cons.1 hb with rfl | hb
            · exact htw
            · obtain rfl := List.mem_singleton.1 hb
              exact huw))
          clear hap hW9 hU9
          go_wp2
          go_roundw
          case rel => exact ⟨k + 1, by omega, by go_num, hbelA⟩
          case measure => simp [intOf]; omega
    · have : k = 2 := by omega
      subst this
      go_wp2_with fail
      refine (ws.c_lives _ hkr).mono ?_
      rintro e wG ⟨rfl, hb15⟩
      have hfin := hbel.trans (hb15.mono hbel.size)
      go_wp2
      go_ret
      exact ⟨rfl, hfin⟩

set_option maxRecDepth 100000 in
theorem lifted (os : Os) (started : os.Started) (H : Type) (enc : TypeId × Value → H) :
    ReturnsInHanded {} Tryz.checked os 6 .any (fun w args => (Rows.wholeTellsSpec.pre enc Tryz.prog Tryz.f6 Rows.wholeTellsRow.domain false w args ∧ laidMetH Tryz.prog Rows.wholeTellsRow.laid w) ∧ sizedMet enc Tryz.prog Tryz.f6 (OpenSpec.ofChange Rows.wholeTellsSpec) false w args)
      (Rows.wholeTellsSpec.post enc Tryz.prog Tryz.f6 false true false false) := by
  refine returnsInHanded_of_change_and (C := Tryz.checked) (X := fun w _ => laidMetH Tryz.prog Rows.wholeTellsRow.laid w) (fun _ _ _ hh h => h.of_heap hh) own started (by kernel_rfl) Tryz.func6
    (ChangeSpec.witness_shaped (enc := enc) (C := Tryz.checked) (os := os) (X := fun w _ => laidMetH Tryz.prog Rows.wholeTellsRow.laid w) false (World.laidAll Tryz.prog os Rows.wholeTellsRow.laid) #[] 8 (World.laidAll_os _ _ _)
      (World.shaped_of_ZipB (by kernel_rfl) (by kernel_rfl)) (by kernel_rfl) (by kernel_rfl) (by kernel_rfl)
      (by rw [MakeChecks.laidMetH_plain _ _ _ (by kernel_rfl)]; exact laidMet_laidAll _ (by kernel_rfl) (by kernel_rfl))) ?_
  intro W base args ds gs before hval0 hW _ _ hL _
  have hval : ∀ (j : Nat) t v, Tryz.f6.params[j]? = some t → args[j]? = some v → Value.okWide Tryz.prog W .any base t v := hval0
  have hW' := hW
  obtain ⟨p, q, hA0, hV, rfl, hfz, hnd⟩ := hW
  have hA : DataW.TrodAll enc Tryz.prog W 0 (fun _ => true) true Tryz.f6.params.toList args.toList ds p := hA0
  rw [Tryz.params6] at hA hval
  obtain ⟨rfl, rfl, rfl⟩ := trodAll_none hA
  obtain ⟨rfl, rfl⟩ := trodVars_none hV
  clear hA0 hval0
  simp only [List.append_nil] at hW'
  refine (walk W (kn.known3 rfl rfl hL)).mono fun e W' ⟨he, bel⟩ => ?_
  subst he
  exact ⟨_, rfl, _, _, _, [], [], [], hW', trodAll_mk1 (shut_bool Tryz.underlying4 _), trodAll_mk0, rfl, bel.frame _, fun h => by cases h⟩

theorem over : Rows.wholeTellsRow.holds Tryz.pinned (OpenSpec.ofChange Rows.wholeTellsSpec) :=
  OpenClaim.holds_of_wide 6 Tryz.f6 rfl rfl rfl rfl rfl rfl rfl ⟨rfl, rfl, rfl, rfl, rfl⟩ rfl rfl rfl rfl rfl (by kernel_rfl) Tryz.func6 (by kernel_rfl)
    (of_decide_eq_true (by kernel_rfl)) (by unfold Func.isWrapper; first | (rw [if_pos (by decide +kernel)]; kernel_rfl) | (rw [if_neg (by decide +kernel)]; exact ⟨rfl, rfl⟩))
    (fun os started H enc _ => lifted os started H enc)
end Go.Proofs.YtecmlefiajhajaaGreatDoor.wholeTells
namespace Go.Proofs.YtecmlefiajhajaaGreatDoor
theorem WholeTellsCardHolds : Rows.WholeTellsCardSaid :=
  Claim7.holds_tied_plain_at .later [] [.data, .data, .pinned] true (true, "1abcdf3bde55cf0cf6563ac3d4721f7f4065351a883545310eb66ddb6c9b0853") false wholeTells.over (fun _ h => by cases h) (by kernel_rfl) (fun _ h => by cases h) wholeTells_row_tie rfl ⟨rfl, rfl⟩ (by kernel_rfl) rfl
    (fun f fn hf hfn => by
      obtain rfl : f = 6 := Option.some.inj ((show Tryz.prog.funcNamed "gambit/gambitlaw14.WholeTells" = some 6 by kernel_rfl).symm.trans hf) |>.symm
      obtain rfl : fn = Tryz.f6 := (Option.some.inj (Tryz.func6.symm.trans hfn)).symm
      exact ⟨by kernel_rfl, fun j t ht => by
        rw [Tryz.params6] at ht
        simp at ht⟩)
    (by kernel_rfl)
#print axioms WholeTellsCardHolds
end Go.Proofs.YtecmlefiajhajaaGreatDoor
