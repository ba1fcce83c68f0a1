/- gambitref14.Tokens: the names of the six tokens, in a new list; two such lists are the same. -/
import Derived.Test.YtecmlefiajhajaaGreatDoorNu
import Derived.RegionTactic
import Derived.BigRegion
import Derived.OwnWalk
import Derived.Deep.CutBlock
namespace Go.Proofs.YtecmlefiajhajaaGreatDoor.nu
open Go.RowKit Go.Sim wh wr tk
set_option linter.unusedVariables false
set_option maxRecDepth 100000

noncomputable def okS (v : Value) (S : St) : Bool := match v with
  | .slice (some ⟨n, 0, none⟩) 6 c => Nat.beq c big && (match S.heap.get n with | some B => ((List.range 6).all fun j => match B.get j with | some u => eqC u (.string ((six[j]?).getD ⟨#[]⟩)) | none => false) | none => false)
  | _ => false
/-- a list of the six names -/
def SixAt (w : World) (b cap : Nat) : Prop := 6 ≤ cap ∧ b < w.heap.size ∧ ∀ j, j < 6 → w.cell? ⟨b, j, none⟩ = some (.string ((six[j]?).getD ⟨#[]⟩))
theorem SixAt.kept {w w' : World} {b cap : Nat} (h : SixAt w b cap) (hb : w'.heap[b]? = w.heap[b]?) (hs : w.heap.size ≤ w'.heap.size) : SixAt w' b cap :=
  ⟨h.1, Nat.lt_of_lt_of_le h.2.1 hs, fun j hj => (World.cell?_of_block (a := ⟨b, j, none⟩) hb).trans (h.2.2 j hj)⟩
theorem okS_spec {NG Bar : Nat} {e : Env} {S : St} {w : World} {v v' : Value} (h : okS v S = true) (hv : RV e v v') (hS : RS NG Bar e S w) : ∃ b cap, v' = .slice (some ⟨b, 0, none⟩) 6 cap ∧ SixAt w b cap := by
  unfold okS at h
  split at h
  · rename_i n c
    rw [Bool.and_eq_true] at h
    obtain ⟨h1, h2⟩ := h
    have h1 := nbeq h1
    subst h1
    obtain ⟨b, k, q1, _, rfl, q2⟩ := hv
    split at h2
    · rename_i B hB
      obtain ⟨b', k', g1, cs, g2, _, _, _, g6⟩ := hS.blk n B hB
      rw [q1] at g1
      cases g1
      refine ⟨b, k, by rw [if_pos rfl], q2 rfl, hS.hi _ _ _ q1, fun j hj => ?_⟩
      have := List.all_eq_true.1 h2 j (List.mem_range.2 hj)
      split at this
      · rename_i u hu
        rw [eqC_spec this] at hu
        obtain ⟨v', g7, g8⟩ := g6 j _ hu
        rw [RV] at g8
        subst g8
        simp only [World.cell?, g2]
        exact g7
      · cases this
    · cases h2
  · cases h

noncomputable def rtRun (c : Code) (l : List Code) : Bool := tailE Tryz.prog (callH Tryz.prog H 1 60) 1 (answers Tryz.prog [.tmp 0] okS) (c :: l) (frC 27 1 [(1, .pointer (some ⟨1, 0, none⟩))]) (mkSt 39 (hpR 63 true) (roC (lW 63)))
set_option maxHeartbeats 1000000 in
theorem c_rtok (w : World) (hk : Known 1 kn.gl w) : Calls Tryz.prog 36 #[] w fun e w' => (∃ b cap, e = .returned (.slice (some ⟨b, 0, none⟩) 6 cap) ∧ SixAt w' b cap) ∧ Below w.heap.size w w' := by
  go_enter Tryz.func36, Tryz.ntmps36
  go_wp2_with fail
  refine (ws.c_rbook _ hk).mono ?_
  rintro e w1 ⟨⟨bk, rfl, Bar, hBar, e0, k0, hRS, h0, hbk⟩, hb⟩
  go_upto_region 2 with (fail)
  refine tail_exec (E := fun a' w' => bodyPost Tryz.prog Tryz.f36 (fun e w' => (∃ b cap, e = .returned (.slice (some ⟨b, 0, none⟩) 6 cap) ∧ SixAt w' b cap) ∧ Below w.heap.size w w') .ret a' w') num mixed (callH_ok num mixed H_ok 60) [_] _ _ (frC 27 1 [(1, .pointer (some ⟨1, 0, none⟩))]) _ e0 _ _ ⟨_, _, rfl, (by assumption), fun x a' w' hx hE => by rcases hx with rfl | rfl <;> exact hE⟩ (show rtRun _ [_] = true by kernel_rfl) (frC_ok (by kernel_rfl) rfl (fun p hp => ?_) (globs1 h0)) hRS (globs1 h0) (fun A2 S2 e2 a2 w2 hok hF2 hS2 hsub hb2 hdf => ?_)
  · obtain rfl := List.mem_singleton.1 hp
    exact ⟨_, rfl, RV.ptr hbk⟩
  · obtain ⟨v, v', h1, h2, h3⟩ := answers_ok (fn := Tryz.f36) hok rfl hF2 hS2
    obtain ⟨b, cap, rfl, h4⟩ := okS_spec h1 h3 hS2
    exact ⟨hdf, _, h2, ⟨b, cap, rfl, h4⟩, hb.trans (hb2.mono hBar)⟩

/-- two lists of the six names are the same -/
def two6 : List (Nat × KB) := [(0, { cells := idx 0 (six.map Value.string), size := 6, elem := 0, es := 1 }), (1, { cells := idx 0 (six.map Value.string), size := 6, elem := 0, es := 1 })]
theorem same6B : callV Tryz.prog noHook 0 60 2 33 [.slice (some ⟨0, 0, none⟩) 6 big, .slice (some ⟨1, 0, none⟩) 6 big] (mkSt 2 [] two6) (.bool true) (fun _ n => n) 2 [] [] = true := by kernel_rfl
theorem six_cells {b cap : Nat} {w : World} (h : SixAt w b cap) : ∃ cs t f, w.heap[b]? = some (.cells cs t f) ∧ ∀ q ∈ idx 0 (six.map Value.string), ∃ v', cs[q.1]? = some v' ∧ ∀ e : Env, RV e q.2 v' := by
  have h0 := h.2.2 0 (by omega)
  obtain ⟨cs, t, f, hb⟩ := ws.block_of_cell h0
  refine ⟨cs, t, f, hb, fun q hq => ?_⟩
  simp only [six, idx, List.map_cons, List.map_nil, List.mem_cons, List.not_mem_nil, or_false] at hq
  rcases hq with rfl | rfl | rfl | rfl | rfl | rfl
  · exact ⟨_, ws.cell_in hb (h.2.2 0 (by omega)), fun e => rfl⟩
  · exact ⟨_, ws.cell_in hb (h.2.2 1 (by omega)), fun e => rfl⟩
  · exact ⟨_, ws.cell_in hb (h.2.2 2 (by omega)), fun e => rfl⟩
  · exact ⟨_, ws.cell_in hb (h.2.2 3 (by omega)), fun e => rfl⟩
  · exact ⟨_, ws.cell_in hb (h.2.2 4 (by omega)), fun e => rfl⟩
  · exact ⟨_, ws.cell_in hb (h.2.2 5 (by omega)), fun e => rfl⟩
theorem c_same6 {a b ca cb : Nat} {w : World} (ha : SixAt w a ca) (hb : SixAt w b cb) : Calls Tryz.prog 33 #[.slice (some ⟨a, 0, none⟩) 6 ca, .slice (some ⟨b, 0, none⟩) 6 cb] w fun e w' => e = .returned (.bool true) ∧ Below w.heap.size w w' := by
  have hRS : RS 2 w.heap.size (fun i => if i = 0 then some (a, ca) else if i = 1 then some (b, cb) else none) (mkSt 2 [] two6) w := by
    refine RoL.rs (fun p hp => ?_) (fun p hp => ?_) (fun i hi => ?_) (fun i hi => by rw [if_neg (by omega), if_neg (by omega)])
    · simp only [two6, List.mem_cons, List.not_mem_nil, or_false] at hp
      rcases hp with rfl | rfl
      · obtain ⟨cs, t, f, h1, h2⟩ := six_cells ha
        exact ⟨a, ca, cs, t, f, rfl, h1, fun q hq => let ⟨v', h3, h4⟩ := h2 q hq; ⟨v', h3, h4 _⟩⟩
      · obtain ⟨cs, t, f, h1, h2⟩ := six_cells hb
        exact ⟨b, cb, cs, t, f, rfl, h1, fun q hq => let ⟨v', h3, h4⟩ := h2 q hq; ⟨v', h3, h4 _⟩⟩
    · simp only [two6, List.mem_cons, List.not_mem_nil, or_false] at hp
      rcases hp with rfl | rfl <;> (refine ⟨by show _ < 1000000; omega, fun q hq => ?_⟩; simp only [six, idx, List.map_cons, List.map_nil, List.mem_cons, List.not_mem_nil, or_false] at hq; rcases hq with rfl | rfl | rfl | rfl | rfl | rfl <;> (show _ < 1000000; omega))
    · by_cases h0 : i = 0
      · exact ⟨(a, ca), if_pos h0, ha.2.1⟩
      · have : i = 1 := by omega
        subst this
        exact ⟨(b, cb), rfl, hb.2.1⟩
  refine (callV_ok num mixed noHook_ok same6B hRS (fun g hg => absurd hg (by omega)) (args' := [.slice (some ⟨a, 0, none⟩) 6 ca, .slice (some ⟨b, 0, none⟩) 6 cb]) ⟨_, _, ⟨a, ca, rfl, rfl, rfl, fun _ => ha.1⟩, ⟨_, _, ⟨b, cb, rfl, rfl, rfl, fun _ => hb.1⟩, rfl, rfl⟩, rfl⟩).mono fun en w' ⟨⟨e2, v', hen, hv, _, _⟩, hbel⟩ => ?_
  exact ⟨by rw [hen, RV.flat_eq rfl hv], hbel⟩
end Go.Proofs.YtecmlefiajhajaaGreatDoor.nu
