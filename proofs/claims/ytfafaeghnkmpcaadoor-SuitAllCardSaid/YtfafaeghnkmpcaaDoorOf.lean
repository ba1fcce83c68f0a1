/- suit.Of: the number of the suit that has a name, or none: by the law on a range over a function. -/
import Derived.RangeFuncNested
import Derived.RangeFuncBound
import Derived.RangeFuncCalls
import Derived.RangeFuncLeaves
import Derived.Shelf.Abstract
import Derived.Shelf.RegionOpen
import Derived.WalkKit
import Derived.OwnWalkIn
import Derived.TacticsInMore
import Derived.LoopNIn
import Derived.LoopIn
import Derived.Test.YtfafaeghnkmpcaaDoorChecked
import Derived.Test.YtfafaeghnkmpcaaDoorSim
namespace Go.Proofs.YtfafaeghnkmpcaaDoor.suitOf
open Go.RowKit Go.Shelf
attribute [local go_sem] Oper.semAt_some
set_option linter.unusedVariables false

theorem bytes_eq {s t : ByteArray} (h : s.data.toList = t.data.toList) : s = t := by
  obtain ⟨⟨a⟩⟩ := s
  obtain ⟨⟨b⟩⟩ := t
  simp at h
  rw [h]

/-- a suit's name -/
def nameF (x : Int) : ByteArray := if x = 1 then ⟨#[97, 105, 114]⟩ else if x = 2 then ⟨#[101, 97, 114, 116, 104]⟩ else if x = 3 then ⟨#[102, 105, 114, 101]⟩ else if x = 4 then ⟨#[119, 97, 116, 101, 114]⟩ else if x = 5 then ⟨#[118, 111, 105, 100]⟩ else if x = 6 then ⟨#[103, 111, 108, 100]⟩ else ⟨#[]⟩

def upto (k : Nat) : List Int := (List.range k).map fun (i : Nat) => (i : Int) + 1
theorem upto_succ (k : Nat) : upto (k + 1) = upto k ++ [(k : Int) + 1] := by simp [upto, List.range_succ]
theorem upto_length (k : Nat) : (upto k).length = k := by simp [upto]

set_option maxRecDepth 100000 in
set_option maxHeartbeats 2000000 in
theorem name_in (F : Fence) (n : Nat) (h : F.fn 13) (hro : F.round = none) (x : Int) (w : World) :
    CallsIn F n Tryd.prog 13 #[.int .u8 x] w fun e w' => e = .returned (.string (nameF x)) ∧ w' = w := by
  refine callsIn_of_wp Tryd.func13 rfl h ?_ hro
  simp only [Tryd.ntmps13, List.size_toArray, List.length_cons, List.length_nil, Nat.reduceAdd, Nat.reduceSub, Array.replicate_succ, Array.replicate_zero, List.push_toArray, List.append_toArray, List.nil_append, List.cons_append]
  unfold nameF
  by_cases h1 : x = 1
  · subst h1; gi_wp2; go_ret; exact ⟨rfl, rfl⟩
  by_cases h2 : x = 2
  · subst h2; gi_wp2; go_ret; exact ⟨rfl, rfl⟩
  by_cases h3 : x = 3
  · subst h3; gi_wp2; go_ret; exact ⟨rfl, rfl⟩
  by_cases h4 : x = 4
  · subst h4; gi_wp2; go_ret; exact ⟨rfl, rfl⟩
  by_cases h5 : x = 5
  · subst h5; gi_wp2; go_ret; exact ⟨rfl, rfl⟩
  by_cases h6 : x = 6
  · subst h6; gi_wp2; go_ret; exact ⟨rfl, rfl⟩
  gi_wp2
  go_ret
  simp [h1, h2, h3, h4, h5, h6]

set_option maxRecDepth 100000 in
set_option maxHeartbeats 2000000 in
theorem all_stops (F : Fence) (n : Nat) (h : F.fn 49) (hro : F.round = none) (hn : 1 ≤ n) (w : World) :
    SeqStopsK F n Tryd.prog 49 #[] (fun v : Int => #[Value.int .u8 v]) KeepsWalks (fun xs => xs = upto 6) (fun pre => ∃ k, k < 6 ∧ pre = upto (k + 1)) 6 w := fun l J Jx W _ _ _ hY h0 => by
  refine callsIn_of_wp Tryd.func49 rfl h ?_ hro
  simp only [Tryd.ntmps49, List.size_toArray, List.length_cons, List.length_nil, Nat.reduceAdd, Nat.reduceSub, Array.replicate_succ, Array.replicate_zero, List.push_toArray, List.append_toArray, List.nil_append, List.cons_append]
  gi_wp2
  gi_loopw [2] (fun p wr => ∃ (k : Nat), k ≤ 6 ∧ p = .int .u8 ((k : Int) + 1) ∧ J (upto k) wr) (fun p _ => 7 - (intOf p).toNat)
  case atStart => exact ⟨0, by omega, rfl, h0⟩
  case round =>
    obtain ⟨k, hk, rfl, hJ⟩ := hrel
    by_cases h6 : k < 6
    · obtain ⟨fn, tmps, assign, body, hy, hR⟩ := hY (upto k) ((k : Int) + 1) wr hJ (by rw [upto_length]; exact h6)
      try dsimp only at hy
      gi_wp2
      refine hR.mono ?_
      rintro e W3 (⟨rfl, hJ3, _⟩ | ⟨rfl, hJx3⟩)
      · gi_wp2
        go_roundw
        case rel => exact ⟨k + 1, by omega, by go_num, by rw [upto_succ]; exact hJ3⟩
        case measure => simp [intOf]; omega
      · gi_wp2
        refine bodyPost_ret (results_none rfl _ _ _) rfl ?_
        exact ⟨⟨_, rfl⟩, .inr ⟨_, ⟨k, h6, by rw [upto_succ]⟩, hJx3⟩⟩
    · have : k = 6 := by omega
      subst this
      gi_wp2
      go_end0
      exact ⟨⟨_, rfl⟩, .inl ⟨_, rfl, hJ⟩⟩


theorem all_in (F : Fence) (n : Nat) (h : F.fn 17) (hro : F.round = none) (w : World) :
    CallsIn F n Tryd.prog 17 #[] w fun e w' => e = .returned (.func (.func 49) #[] #[]) ∧ w' = w := by
  refine callsIn_of_wp Tryd.func17 rfl h ?_ hro
  simp only [Tryd.ntmps17, List.size_toArray, List.length_cons, List.length_nil, Nat.reduceAdd, Nat.reduceSub, Array.replicate_succ, Array.replicate_zero, List.push_toArray, List.append_toArray, List.nil_append, List.cons_append]
  gi_wp2
  go_ret
  exact ⟨rfl, rfl⟩

/-- the answer to a name -/
def Ans (name : ByteArray) (v : Value) : Prop :=
  (∃ k : Nat, k < 6 ∧ nameF ((k : Int) + 1) = name ∧ (∀ y ∈ upto k, nameF y ≠ name) ∧ v = .tuple #[.int .u8 ((k : Int) + 1), .bool true]) ∨
  ((∀ y ∈ upto 6, nameF y ≠ name) ∧ v = .tuple #[.int .u8 0, .bool false])

set_option maxRecDepth 100000 in
set_option maxHeartbeats 4000000 in
theorem of_in (F : Fence) (n : Nat) (h11 : F.fn 11) (h17 : F.fn 17) (h49 : F.fn 49) (h13 : F.fn 13) (hro : F.round = none) (hn : 4 ≤ n) (name : ByteArray) (w : World) :
    CallsIn F n Tryd.prog 11 #[.string name] w fun e w' => (∃ v, e = .returned v ∧ Ans name v) ∧ Below w.heap.size w w' := by
  have h1 : 1 ≤ n := by omega
  refine callsIn_of_wp_marks Tryd.func11 rfl h11 ?_ hro
  simp only [Tryd.ntmps11, List.size_toArray, List.length_cons, List.length_nil, Nat.reduceAdd, Nat.reduceSub, Array.replicate_succ, Array.replicate_zero, List.push_toArray, List.append_toArray, List.nil_append, List.cons_append]
  gi_wp2_with (gi_at_call 17; refine (all_in F (n - 1) h17 hro _).mono ?_; rintro e w' ⟨rfl, rfl⟩)
  obtain ⟨W0, hW0⟩ : ∃ W0, ((w.alloc (.cells #[.string name] 9)).alloc (.cells #[.int .u8 0] 22)).alloc (.cells #[.bool false] 4) = W0 := ⟨_, rfl⟩
  have hs0 : W0.heap.size = w.heap.size + 3 := by rw [← hW0]; simp
  have hB0 : W0.heap[w.heap.size]? = some (.cells #[.string name] 9 (0, 0)) := by
    rw [← hW0]; exact ((Below.heap_alloc _ _ _ (by simp; omega)).trans (Below.heap_alloc _ _ _ (by simp))).trans (World.alloc_heap_new w _)
  have hB1 : W0.heap[w.heap.size + 1]? = some (.cells #[.int .u8 0] 22 (0, 0)) := by
    rw [← hW0]; refine (Below.heap_alloc _ _ _ (by simp)).trans ?_
    have := World.alloc_heap_new (w.alloc (.cells #[.string name] 9)) (.cells #[.int .u8 0] 22); rwa [World.size_alloc] at this
  have hB2 : W0.heap[w.heap.size + 1 + 1]? = some (.cells #[.bool false] 4 (0, 0)) := by
    rw [← hW0]; have := World.alloc_heap_new ((w.alloc (.cells #[.string name] 9)).alloc (.cells #[.int .u8 0] 22)) (.cells #[.bool false] 4); rwa [World.size_alloc, World.size_alloc] at this
  have hBW : Below w.heap.size w W0 := by rw [← hW0]; exact (((Below.refl _ w).alloc (Nat.le_refl _) _).alloc (by simp) _).alloc (by simp; omega) _
  have hcell : ∀ (b : Nat) (v : Value) (t : TypeId), W0.heap[b]? = some (.cells #[v] t (0, 0)) → W0.cell? ⟨b, 0, none⟩ = some v ∧ W0.frozen? ⟨b, 0, none⟩ = false := fun b v t h => ⟨by simp [World.cell?, h], by simp [World.frozen?, h]⟩
  rw [hW0]
  refine wpIn_rangeFunc_ownF hro h1 (gf := 49) (lb := #[]) rfl h49 (enters_of Tryd.func49 (by kernel_rfl) rfl)
    (all_stops F (n - 1) h49 hro (by omega) W0) walksK_t walksK_b (Below.refl _ _) (fun _ => rfl)
    (fun pre W => ((∀ y ∈ pre, nameF y ≠ name) ∧ W.cell? ⟨w.heap.size, 0, none⟩ = some (.string name) ∧ W.cell? ⟨w.heap.size + 1, 0, none⟩ = some (.int .u8 0) ∧ W.frozen? ⟨w.heap.size + 1, 0, none⟩ = false ∧ W.cell? ⟨w.heap.size + 1 + 1, 0, none⟩ = some (.bool false) ∧ W.frozen? ⟨w.heap.size + 1 + 1, 0, none⟩ = false) ∧ Below w.heap.size w W)
    (fun c pre W => (c = .ret ∧ (∃ pre' x, pre = pre' ++ [x] ∧ (∀ y ∈ pre', nameF y ≠ name) ∧ nameF x = name ∧ W.cell? ⟨w.heap.size + 1, 0, none⟩ = some (.int .u8 x)) ∧ W.cell? ⟨w.heap.size + 1 + 1, 0, none⟩ = some (.bool true)) ∧ Below w.heap.size w W)
    (OwnFrom.and (Own.from (fun s A B row hs hg hr => ⟨hs.1, cell_kept hs.2.1 hg hr, cell_kept hs.2.2.1 hg hr, (frozen_kept hs.2.2.1 hg hr).trans hs.2.2.2.1, cell_kept hs.2.2.2.2.1 hg hr, (frozen_kept hs.2.2.2.2.1 hg hr).trans hs.2.2.2.2.2⟩) _) (ownFrom_below (Nat.le_refl _) (by omega)))
    (fun c => OwnFrom.and (Own.from (fun s A B row hs hg hr => (by
      obtain ⟨q1, ⟨p', x, q2, q3, q4, q5⟩, q6⟩ := hs
      exact ⟨q1, ⟨p', x, q2, q3, q4, cell_kept q5 hg hr⟩, cell_kept q6 hg hr⟩)) _) (ownFrom_below (Nat.le_refl _) (by omega)))
    ⟨⟨by simp, (hcell _ _ _ hB0).1, (hcell _ _ _ hB1).1, (hcell _ _ _ hB1).2, (hcell _ _ _ hB2).1, (hcell _ _ _ hB2).2⟩, hBW⟩
    (fun x => { tmps := #[.string name, .pointer (some ⟨w.heap.size, 0, none⟩), .pointer (some ⟨w.heap.size + 1, 0, none⟩), .pointer (some ⟨w.heap.size + 1 + 1, 0, none⟩), .int .u8 x, .func (.func 49) #[] #[], .int .u8 x, undef, undef, undef, undef, undef], defers := [] }) ?assign ?body ?done ?stop
  case assign =>
    intro l x W K hK
    gi_wp2
    exact hK
  case body =>
    rintro l pre x W ⟨⟨hne, hcn, hc1, hf1, hc2, hf2⟩, hB⟩ _
    have hd : 1 ≤ n - 1 - 1 := by omega
    have hmx : Tryd.prog.follows .mixedOrders = true := by kernel_rfl
    gi_wp2
    gi_region_with_o (gi_at_call 13; refine (CallsIn.inRound l (name_in F _ h13 hro _ _)).mono ?_; rintro e w' ⟨rfl, rfl⟩)
    all_goals gi_wp2
    all_goals first
      | (rename_i hx
         have hx : nameF x = name := bytes_eq (eq_of_beq (by simpa [ByteArray.toList_eq] using hx))
         refine ⟨((KeepsOthers.setCell _ _ _).trans (KeepsOthers.setCell _ _ _)).trans (KeepsOthers.drew _), ⟨rfl, ⟨pre, x, rfl, hne, hx, ?_⟩, ?_⟩, ?_⟩
         · exact (World.cell?_setCell_other _ _ _ _ (by intro e; injection e with e _ _; omega)).trans (World.cell?_setCell_same' W ⟨w.heap.size + 1, 0, none⟩ (.int .u8 x) (by rw [hc1]; rfl))
         · exact World.cell?_setCell_same' _ ⟨w.heap.size + 1 + 1, 0, none⟩ (.bool true) (by rw [World.cell?_setCell_other _ _ _ _ (by intro e; injection e with e _ _; omega), hc2]; rfl)
         · exact ((hB.setCell (p := ⟨w.heap.size + 1, 0, none⟩) (by simp) _).setCell (p := ⟨w.heap.size + 1 + 1, 0, none⟩) (by simp; omega) _).drew)
      | (rename_i hx
         have hx : nameF x ≠ name := fun hh => by
           subst hh
           simp at hx
         exact ⟨KeepsOthers.drew _, (KeepsOthers.drew _).walks, ⟨fun y hy => (List.mem_append.1 hy).elim (hne y) (fun e => by simp at e; subst e; exact hx), hcn, hc1, hf1, hc2, hf2⟩, hB.drew⟩)
  case done =>
    rintro D xs W hD rfl ⟨⟨hne, hcn, hc1, hf1, hc2, hf2⟩, hB⟩ hK
    gi_wp2
    have hK' := ((KeepsOthers.setCell W ⟨w.heap.size + 1, 0, none⟩ (.int .u8 0)).trans (KeepsOthers.setCell _ ⟨w.heap.size + 1 + 1, 0, none⟩ (.bool false))).same D _ hK rfl
    refine ⟨by simp, .inl ⟨_, _, rfl, run_takeDeferred hK', ?_⟩⟩
    have q1 : ((W.setCell ⟨w.heap.size + 1, 0, none⟩ (.int .u8 0)).setCell ⟨w.heap.size + 1 + 1, 0, none⟩ (.bool false)).cell? ⟨w.heap.size + 1, 0, none⟩ = some (.int .u8 0) := by
      rw [World.cell?_setCell_other _ _ _ _ (by intro e; injection e with e _ _; omega)]
      exact World.cell?_setCell_same' W ⟨w.heap.size + 1, 0, none⟩ (.int .u8 0) (by rw [hc1]; rfl)
    have q2 : ((W.setCell ⟨w.heap.size + 1, 0, none⟩ (.int .u8 0)).setCell ⟨w.heap.size + 1 + 1, 0, none⟩ (.bool false)).cell? ⟨w.heap.size + 1 + 1, 0, none⟩ = some (.bool false) :=
      World.cell?_setCell_same' (W.setCell ⟨w.heap.size + 1, 0, none⟩ (.int .u8 0)) ⟨w.heap.size + 1 + 1, 0, none⟩ (.bool false) (by rw [World.cell?_setCell_other _ _ _ _ (by intro e; injection e with e _ _; omega), hc2]; rfl)
    have hc5 := cell_kept q1 (grownBy_putObj' _ D (.deferred none)) (fun r e => by cases e; exact ⟨_, hK', rfl⟩)
    have hc6 := cell_kept q2 (grownBy_putObj' _ D (.deferred none)) (fun r e => by cases e; exact ⟨_, hK', rfl⟩)
    refine ⟨.tuple #[.int .u8 0, .bool false], ?_, ⟨_, rfl, .inr ⟨hne, rfl⟩⟩, ((hB.setCell (p := ⟨w.heap.size + 1, 0, none⟩) (by simp) _).setCell (p := ⟨w.heap.size + 1 + 1, 0, none⟩) (by simp; omega) _).trans (belowK_b (w := w) (Nat.le_refl _) _ D _ _ (by omega) hK' rfl rfl)⟩
    simp [results, Tryd.f11, go_sem, hc5, hc6]
  case stop =>
    rintro D c pre W hD ⟨k, hk, rfl⟩ ⟨⟨rfl, ⟨pre', x, hpre, hne, hx, hc1⟩, hc2⟩, hB⟩ hK
    rw [upto_succ] at hpre
    obtain ⟨h5, h6⟩ := List.append_inj' hpre rfl
    subst h5
    simp only [List.cons.injEq, and_true] at h6
    subst h6
    gi_wp2
    refine ⟨by simp, .inl ⟨_, _, rfl, run_takeDeferred hK, ?_⟩⟩
    have hc5 := cell_kept hc1 (grownBy_putObj' _ D (.deferred none)) (fun r e => by cases e; exact ⟨_, hK, rfl⟩)
    have hc6 := cell_kept hc2 (grownBy_putObj' _ D (.deferred none)) (fun r e => by cases e; exact ⟨_, hK, rfl⟩)
    refine ⟨.tuple #[.int .u8 ((k : Int) + 1), .bool true], ?_, ⟨_, rfl, .inl ⟨k, hk, hx, hne, rfl⟩⟩, hB.trans (belowK_b (w := w) (Nat.le_refl _) W D _ _ (by omega) hK rfl rfl)⟩
    simp [results, Tryd.f11, go_sem, hc5, hc6]

/-- THE CONTRACT -/
theorem of_calls (name : ByteArray) (w : World) : Calls Tryd.prog 11 #[.string name] w fun e w' => (∃ v, e = .returned v ∧ Ans name v) ∧ Below w.heap.size w w' :=
  (callsIn_wide (n := 5)).1 (of_in Fence.wide 5 trivial trivial trivial trivial rfl (by omega) name w)
theorem name_calls (x : Int) (w : World) : Calls Tryd.prog 13 #[.int .u8 x] w fun e w' => e = .returned (.string (nameF x)) ∧ w' = w :=
  (callsIn_wide (n := 5)).1 (name_in Fence.wide 5 trivial rfl x w)

/-- the answer, reckoned -/
noncomputable def ofV (s : ByteArray) : Value :=
  Sim.br (Sim.beqL s.data.toList [97, 105, 114]) (.tuple ⟨[.int .u8 1, .bool true]⟩) (Sim.br (Sim.beqL s.data.toList [101, 97, 114, 116, 104]) (.tuple ⟨[.int .u8 2, .bool true]⟩) (Sim.br (Sim.beqL s.data.toList [102, 105, 114, 101]) (.tuple ⟨[.int .u8 3, .bool true]⟩) (Sim.br (Sim.beqL s.data.toList [119, 97, 116, 101, 114]) (.tuple ⟨[.int .u8 4, .bool true]⟩) (Sim.br (Sim.beqL s.data.toList [118, 111, 105, 100]) (.tuple ⟨[.int .u8 5, .bool true]⟩) (Sim.br (Sim.beqL s.data.toList [103, 111, 108, 100]) (.tuple ⟨[.int .u8 6, .bool true]⟩) ((.tuple ⟨[.int .u8 0, .bool false]⟩)))))))

theorem ofV_ans {name : ByteArray} {v : Value} (h : Ans name v) : v = ofV name := by
  rcases h with ⟨k, hk, h1, -, rfl⟩ | ⟨h1, rfl⟩
  · have : k = 0 ∨ k = 1 ∨ k = 2 ∨ k = 3 ∨ k = 4 ∨ k = 5 := by omega
    rcases this with rfl | rfl | rfl | rfl | rfl | rfl <;> (rw [← h1]; rfl)
  · have ne : ∀ (k : Nat), k < 6 → name.data.toList ≠ (nameF ((k : Int) + 1)).data.toList := fun k hk hh => h1 ((k : Int) + 1) (List.mem_map.2 ⟨k, List.mem_range.2 hk, rfl⟩) (bytes_eq hh.symm)
    have nb : ∀ (k : Nat), k < 6 → Sim.beqL name.data.toList (nameF ((k : Int) + 1)).data.toList = false := fun k hk => by
      rw [Sim.beqL_eq]
      simpa using ne k hk
    have n0 : Sim.beqL name.data.toList [97, 105, 114] = false := nb 0 (by omega)
    have n1 : Sim.beqL name.data.toList [101, 97, 114, 116, 104] = false := nb 1 (by omega)
    have n2 : Sim.beqL name.data.toList [102, 105, 114, 101] = false := nb 2 (by omega)
    have n3 : Sim.beqL name.data.toList [119, 97, 116, 101, 114] = false := nb 3 (by omega)
    have n4 : Sim.beqL name.data.toList [118, 111, 105, 100] = false := nb 4 (by omega)
    have n5 : Sim.beqL name.data.toList [103, 111, 108, 100] = false := nb 5 (by omega)
    unfold ofV
    simp only [n0, n1, n2, n3, n4, n5, Sim.br_false]

noncomputable def ofA : List Value → Option Value
  | [.string s] => some (ofV s)
  | _ => none

theorem ofA_ok : ∀ args v, ofA args = some v → ∀ w, Calls Tryd.prog 11 args.toArray w fun e w' => e = .returned v ∧ Below w.heap.size w w' := by
  intro args v h w
  unfold ofA at h
  split at h
  · rename_i s
    cases h
    refine (of_calls s w).mono fun e w' hp => ?_
    obtain ⟨⟨u, hu, ha⟩, hb⟩ := hp
    exact ⟨by rw [hu, ofV_ans ha], hb⟩
  · cases h
theorem ofBody : ∃ fn, Tryd.prog.funcs[11]? = some fn ∧ fn.body.isSome = true := ⟨_, Tryd.func11, rfl⟩
end Go.Proofs.YtfafaeghnkmpcaaDoor.suitOf
