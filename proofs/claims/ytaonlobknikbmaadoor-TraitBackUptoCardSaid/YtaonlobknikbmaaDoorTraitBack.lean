/- The law TraitBack, where what it reads is of bulk at most 1048576: for every such input the call returns true, in whatever memory. Conditions: that bulk, and the listed variables. -/
import Derived.Test.YtaonlobknikbmaaDoorRows
import Derived.Test.YtaonlobknikbmaaDoorCards
import Derived.Test.YtaonlobknikbmaaDoorTie
import Derived.Test.YtaonlobknikbmaaDoorSim
import Derived.Test.YtaonlobknikbmaaDoorKn
import Derived.Test.YtaonlobknikbmaaDoorTt
import Derived.Test.YtaonlobknikbmaaDoorTl
import Derived.Laws.Cover1
import Derived.WalkKit
import Derived.ProofKit
import Derived.OpenShut
import Derived.ShutString
import Derived.Below
import Derived.LaidMore
import Derived.Lay
import Derived.SevenTiedAt
import Derived.Deep.DeepHandedRow
import Derived.Stop.Joined
namespace Go.Proofs.YtaonlobknikbmaaDoor.traitBack
open Go.ChangeShapes Go.WideShapes Go.ChangeAt Go.RowKit
open Go.ChangeMaps (open_string shut_string)
set_option linter.unusedVariables false

theorem own : ownKnob Tryd.prog.godebug = none := by kernel_rfl
theorem num : Sim.NumOK Tryd.prog := Sim.numOK_of (by kernel_rfl)
theorem mixed : Tryd.prog.follows .mixedOrders = true := by kernel_rfl
theorem awake_ran : (Sim.callH Tryd.prog Sim.noHook 1 60 1 29 [] (Sim.SG 1 kn.gl)).map Prod.fst = some (.bool true) := by kernel_rfl
set_option maxRecDepth 100000 in
set_option maxHeartbeats 3200000 in
theorem walk (a0 : Int) (a1 : ByteArray) (w0 : (Lit.int .u8 a0).wf = true) (w1 : a1.size ≤ maxLen) (b1 : a1.size ≤ 1048576) (w : World) (hk : Sim.Known 1 kn.gl w) : Calls Tryd.prog 6 #[.int .u8 a0, .string a1] w fun e w' => e = .returned (.bool true) ∧ Below w.heap.size w w' := by
  have hx0 := tb.u8wf w0
  obtain ⟨v, hv⟩ : ∃ v : BitVec 16, (v.toNat : Int) = a0 := ⟨BitVec.ofNat 16 a0.toNat, by rw [BitVec.toNat_ofNat]; omega⟩
  have hc : tb.chkF v = true := decide_eq_true (by omega)
  have hw16 : IntKind.u16.wrap a0 = (v.toNat : Int) := by rw [← hv]; exact tb.wrap16 _ (BitVec.isLt v)
  have hlt : v.toNat < 256 := of_decide_eq_true hc
  obtain ⟨p, hp⟩ : ∃ p, tt.prF v = p := ⟨_, rfl⟩
  have hps : p.size ≤ 100 := by rw [← hp]; exact tt.pr_size v
  have hpr := tt.print_read hc
  rw [hp] at hpr
  have h1 := fun u (h : Sim.Known 1 kn.gl u) => tt.print_eq hp h
  have h2 := fun u (h : Sim.Known 1 kn.gl u) => tt.parse_calls p (by omega) u h
  rw [hpr] at h2
  obtain ⟨⟨u, f⟩, huf⟩ : ∃ r, tt.parF a1 = r := ⟨_, rfl⟩
  have h3 := fun x (h : Sim.Known 1 kn.gl x) => tt.parse_calls a1 (by omega) x h
  rw [huf] at h3
  have hrp := tt.read_print a1 u f huf
  clear huf hpr hp hc
  subst hv
  go_enter Tryd.func6, Tryd.ntmps6
  go_wp2_with fail
  refine (Sim.callsG_ans num mixed Sim.noHook_ok awake_ran rfl rfl hk).mono ?_
  rintro e wa ⟨rfl, ba⟩
  have ka := tt.known_below hk ba
  go_wp2_with fail
  refine (h1 _ ka).mono ?_
  rintro e wb ⟨rfl, bb⟩
  have cb := ba.trans (bb.mono ba.size)
  have kb := tt.known_below hk cb
  go_wp2_with fail
  refine (h2 _ kb).mono ?_
  rintro e wc ⟨rfl, bc⟩
  have cc := cb.trans (bc.mono cb.size)
  have kc := tt.known_below hk cc
  go_wp2_with fail
  refine (h3 _ kc).mono ?_
  rintro e wd ⟨rfl, bd⟩
  have cd := cc.trans (bd.mono cc.size)
  have kd := tt.known_below hk cd
  rcases hrp with ⟨hf, rfl⟩ | ⟨rfl, hpu, hcu⟩
  · have hf1 : (f != 0) = true := bne_iff_ne.2 hf
    go_wp2
    go_ret
    exact ⟨rfl, cd⟩
  · go_wp2_with fail
    refine (tt.print_eq hpu kd).mono ?_
    rintro e we ⟨rfl, be⟩
    have ce := cd.trans (be.mono cd.size)
    go_wp2_with fail
    refine (tb.chk_eq hcu _).mono ?_
    rintro e w' ⟨rfl, rfl⟩
    go_wp2
    go_ret
    exact ⟨rfl, ce⟩

set_option maxRecDepth 100000 in
theorem reads (os : Os) {H : Type} (enc : TypeId × Value → H) : ∃ places, DataW.whole enc Tryd.prog ((World.laidAll Tryd.prog os Rows.traitBackUptoRow.laid).forCall (fun _ _ => 0) ⟨#[], #[.int .u8 0, .string (ByteArray.mk #[])], []⟩).memory Tryd.f6.params.toList Rows.traitBackSpec.vars false #[.int .u8 0, .string (ByteArray.mk #[])].toList 8 = some ([.lit (.int .u8 0), .lit (.string [])], [], places) :=
  ⟨[], by kernel_rfl⟩
theorem okIn (os : Os) : Input.okWideB Tryd.prog ((World.laidAll Tryd.prog os Rows.traitBackUptoRow.laid).forCall (fun _ _ => 0) ⟨#[], #[.int .u8 0, .string (ByteArray.mk #[])], []⟩) 6 ⟨#[], #[.int .u8 0, .string (ByteArray.mk #[])], []⟩ = true := by kernel_rfl

set_option maxRecDepth 100000 in
theorem liftedUpto (os : Os) (started : os.Started) (H : Type) (enc : TypeId × Value → H) (F : Stop.Interp) :
    ReturnsInHanded {} Tryd.checked os 6 .any ((Rows.OpenSpec.upto Rows.traitBackSpec).preRow enc Tryd.prog Tryd.f6 Rows.traitBackUptoRow.domain false Rows.traitBackUptoRow.laid) (((Rows.OpenSpec.upto Rows.traitBackSpec).at F).post enc Tryd.prog Tryd.f6 false true false false) := by
  obtain ⟨places, hx⟩ := reads os enc
  refine returnsInHanded_of_row (C := Tryd.checked) (s := Rows.OpenSpec.upto Rows.traitBackSpec) own started (by kernel_rfl) Tryd.func6
    ⟨World.laidAll Tryd.prog os Rows.traitBackUptoRow.laid, fun _ _ => 0, ⟨#[], #[.int .u8 0, .string (ByteArray.mk #[])], []⟩, World.laidAll_os _ _ _, World.shaped_of_ZipB (by kernel_rfl) (by kernel_rfl), (Input.okWide_of_okWideB (base := 0) (okIn os)).1, (Input.okWide_of_okWideB (okIn os)).2,
      OpenSpec.preRow_of_cond 8 hx (by kernel_rfl) (fun k hk => by cases hk; kernel_rfl) (by kernel_rfl) (by rw [MakeChecks.laidMetH_plain _ _ _ (by kernel_rfl)]; exact laidMet_laidAll _ (by kernel_rfl) (by kernel_rfl)), by
        simp only [Assume.holds]
        exact ⟨by simp, by simp, fun h => by simp at h, by simp, by simp⟩⟩ ?_
  intro W base args ds gs before hval0 hW _ hcond _ hL _ _
  have hval : ∀ (j : Nat) t v, Tryd.f6.params[j]? = some t → args[j]? = some v → Value.okWide Tryd.prog W .any base t v := hval0
  have hsm : Rows.uptoSmall H (ds ++ gs) = true := hcond _ rfl
  clear hcond
  have hW' := hW
  obtain ⟨p, q, hA0, hV, rfl, hfz, hnd⟩ := hW
  have hA : DataW.TrodAll enc Tryd.prog W 0 (fun _ => true) true Tryd.f6.params.toList args.toList ds p := hA0
  rw [Tryd.params6] at hA hval
  obtain ⟨v0, vs0, d0, ds0, p0, q0, hargs, rfl, rfl, h0, r0⟩ := trodAll_cons hA
  obtain ⟨v1, vs1, d1, ds1, p1, q1, rfl, rfl, rfl, h1, r1⟩ := trodAll_cons r0
  obtain ⟨rfl, rfl, rfl⟩ := trodAll_nil r1
  obtain rfl : args = #[v0, v1] := by cases args; simp_all
  obtain ⟨rfl, rfl⟩ := trodVars_none hV
  obtain ⟨a0, rfl, rfl, rfl, w0⟩ := open_int Tryd.underlying5 (hval 0 5 v0 rfl rfl) h0
  obtain ⟨a1, rfl, rfl, rfl, w1⟩ := open_string Tryd.underlying9 (hval 1 9 v1 rfl rfl) h1
  clear hA0 hval0
  simp only [List.append_nil] at hW'
  have b1 : a1.size ≤ 1048576 := by
    have h := of_decide_eq_true hsm
    simp only [List.cons_append, List.nil_append, List.append_nil, Rows.uptoBulkAll, Rows.uptoBulk] at h
    have e : a1.data.toList.length = a1.size := by rw [Array.length_toList]; rfl
    omega
  refine (walk a0 a1 w0 w1 b1 W (kn.known3 rfl rfl hL)).mono fun e W' ⟨he, bel⟩ => ?_
  subst he
  exact ⟨_, rfl, _, _, _, [], _, [], hW', trodAll_mk1 (shut_bool Tryd.underlying4 _), (trodAll_cons_mk (shut_int Tryd.underlying5 w0) (trodAll_cons_mk (shut_string Tryd.underlying9 w1) trodAll_mk0)), rfl, bel.frame _, fun h => by cases h⟩

theorem over : Rows.TraitBackUptoSaid :=
  OpenClaim.holds_of_cond 6 Tryd.f6 rfl rfl rfl rfl rfl rfl rfl ⟨rfl, rfl, rfl, rfl, rfl⟩ rfl rfl rfl rfl rfl (by kernel_rfl) Tryd.func6 (by kernel_rfl)
    (of_decide_eq_true (by kernel_rfl)) (by unfold Func.isWrapper; first | (rw [if_pos (by decide +kernel)]; kernel_rfl) | (rw [if_neg (by decide +kernel)]; exact ⟨rfl, rfl⟩))
    (fun os started H enc _ F => by rw [OpenClaim.pre_eq_preRow]; exact liftedUpto os started H enc F)
end Go.Proofs.YtaonlobknikbmaaDoor.traitBack
namespace Go.Proofs.YtaonlobknikbmaaDoor
theorem TraitBackUptoCardHolds : Rows.TraitBackUptoCardSaid :=
  Claim7.holds_tied_plain_at .later [] [.data, .data, .pinned] true (true, "55ff07e65b8aeca25131fd7b27191feb037126a25f72327e91356655e4f62dc7") false traitBack.over (fun _ h => by cases h) (by kernel_rfl) (fun _ h => by cases h) traitBackUpto_row_tie rfl ⟨rfl, rfl⟩ (by kernel_rfl) rfl
    (fun f fn hf hfn => by
      obtain rfl : f = 6 := Option.some.inj ((show Tryd.prog.funcNamed "gambit/gambitlaw04.TraitBack" = some 6 by kernel_rfl).symm.trans hf) |>.symm
      obtain rfl : fn = Tryd.f6 := (Option.some.inj (Tryd.func6.symm.trans hfn)).symm
      exact ⟨by kernel_rfl, fun j t ht => by
        rw [Tryd.params6] at ht
        have hm : t ∈ [5, 9] := by simpa using Array.mem_of_getElem? ht
        have hall : ([5, 9].all fun u => !Tryd.prog.wantsStandIn u) = true := by kernel_rfl
        exact (show Tryd.prog.wantsStandIn t = false by simpa using List.all_eq_true.1 hall t hm)⟩)
    (by kernel_rfl)
#print axioms TraitBackUptoCardHolds
end Go.Proofs.YtaonlobknikbmaaDoor
