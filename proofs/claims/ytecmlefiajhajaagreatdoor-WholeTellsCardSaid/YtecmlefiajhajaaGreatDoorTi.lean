/- The function that goes over the whole book's cards, by its contract. -/
import Derived.Test.YtecmlefiajhajaaGreatDoorTk
namespace Go.Proofs.YtecmlefiajhajaaGreatDoor.tk
open Go.RowKit Go.Sim Go.Shelf wh
attribute [local go_sem] Oper.semAt_some
set_option linter.unusedVariables false
set_option maxRecDepth 100000

noncomputable def form8 (l : List Value) : Bool := match l with | [.string _, .int _ _, .int _ _, .int _ _, .int _ _, .int _ _, .int _ _, .bool _] => true | _ => false
theorem form_ok : ((List.range 36).all fun i => form8 (c8 i)) = true := by kernel_rfl
theorem c8_lit {i : Nat} (h : i < 36) : ∃ s k1 n1 k2 n2 k3 n3 k4 n4 k5 n5 k6 n6 b, c8 i = [.string s, .int k1 n1, .int k2 n2, .int k3 n3, .int k4 n4, .int k5 n5, .int k6 n6, .bool b] := by
  have := List.all_eq_true.1 form_ok i (List.mem_range.2 h)
  unfold form8 at this
  split at this
  · rename_i h1; exact ⟨_, _, _, _, _, _, _, _, _, _, _, _, _, _, h1⟩
  · cases this

abbrev Al := Fin 36 × Option Addr × Nat × Nat
def enc (x : Al) : Value := Value.agg (c8 x.1.val ++ [Value.slice x.2.1 x.2.2.1 x.2.2.2]).toArray

set_option maxHeartbeats 2000000 in
theorem goes (n bl : Nat) (hn : 2 ≤ n) (w : World) (Bar : Nat) (e : Env) (h : LAt w Bar bl e) :
    SeqStopsK Fence.wide n Tryz.prog 126 #[.pointer (some ⟨bl, 0, none⟩)] (fun x : Al => #[enc x]) (Kept Bar w.heap.size) (fun xs => xs.map (fun x => x.1.val) = List.range 36) (fun _ => True) 36 w := fun l J Jx W hW hJa hJxa hY h0 => by
  obtain ⟨lb, cap, sl, hcl, hb1, hb2, hl1, hl2, hcells, hcopy⟩ := h.list
  have hKW : Kept Bar w.heap.size w W := ⟨hW.size, fun b _ hlt => hW.block b hlt⟩
  have hc : W.cell? ⟨bl, 0, none⟩ = some (.slice (some ⟨lb, 0, none⟩) 36 cap) := (World.cell?_of_block (a := ⟨bl, 0, none⟩) (hKW.2 bl (.inr hb1) hl1)).trans hcl
  refine callsIn_of_wp Tryz.func126 rfl trivial ?_ rfl
  simp only [Tryz.ntmps126, List.size_toArray, List.length_cons, List.length_nil, Nat.reduceAdd, Nat.reduceSub, Array.replicate_succ, Array.replicate_zero, List.push_toArray, List.append_toArray, List.nil_append, List.cons_append]
  gi_wp2
  gi_loopw [7] (fun p wr => ∃ (k : Nat) (pre : List Al), k ≤ 36 ∧ p = .int .i64 k ∧ pre.map (fun x => x.1.val) = List.range k ∧ J pre wr ∧ Kept Bar w.heap.size w wr ∧ W.heap.size ≤ wr.heap.size) (fun p _ => 36 - (intOf p).toNat)
  case atStart => exact ⟨0, [], by omega, rfl, rfl, h0, hKW, Nat.le_refl _⟩
  case round =>
    clear hc
    obtain ⟨k, pre, hk, rfl, hpre, hJ, hK, hsz⟩ := hrel
    have hlen : pre.length = k := by have := congrArg List.length hpre; simpa using this
    by_cases hkl : k < 36
    · obtain ⟨p1, p2, ⟨sa, sn, sc, hsl⟩, hcell⟩ := hcells k hkl
      obtain ⟨s, k1, n1, k2, n2, k3, n3, k4, n4, k5, n5, k6, n6, b, hlit⟩ := c8_lit hkl
      rw [hlit, hsl] at hcell
      have hb := hK.2 lb (.inr hb2) hl2
      have q : ∀ j, j < 9 → wr.cell? ⟨lb, k * 9 + j, none⟩ = ([.string s, .int k1 n1, .int k2 n2, .int k3 n3, .int k4 n4, .int k5 n5, .int k6 n6, .bool b] ++ [Value.slice sa sn sc])[j]? := fun j hj => (World.cell?_of_block (a := ⟨lb, k * 9 + j, none⟩) hb).trans (hcell j hj)
      have q0 : wr.cell? ⟨lb, k * 9, none⟩ = some (.string s) := q 0 (by omega)
      have q1 : wr.cell? ⟨lb, k * 9 + 1, none⟩ = some (.int k1 n1) := q 1 (by omega)
      have q2 : wr.cell? ⟨lb, k * 9 + 2, none⟩ = some (.int k2 n2) := q 2 (by omega)
      have q3 : wr.cell? ⟨lb, k * 9 + 3, none⟩ = some (.int k3 n3) := q 3 (by omega)
      have q4 : wr.cell? ⟨lb, k * 9 + 4, none⟩ = some (.int k4 n4) := q 4 (by omega)
      have q5 : wr.cell? ⟨lb, k * 9 + 5, none⟩ = some (.int k5 n5) := q 5 (by omega)
      have q6 : wr.cell? ⟨lb, k * 9 + 6, none⟩ = some (.int k6 n6) := q 6 (by omega)
      have q7 : wr.cell? ⟨lb, k * 9 + 7, none⟩ = some (.bool b) := q 7 (by omega)
      have q8 : wr.cell? ⟨lb, k * 9 + 8, none⟩ = some (.slice sa sn sc) := q 8 (by omega)
      clear q hb hcell hcells p1 p2
      obtain ⟨W2, hW2⟩ : ∃ X, X = wr.alloc (.cells #[.string s, .int k1 n1, .int k2 n2, .int k3 n3, .int k4 n4, .int k5 n5, .int k6 n6, .bool b, .slice sa sn sc] 40) := ⟨_, rfl⟩
      have hg2 : wr.grownBy W2 none := by rw [hW2]; exact World.grownBy_alloc wr _ none
      have hK2 : Kept Bar w.heap.size w W2 := hK.trans (Kept.of_grown hg2 hK.1)
      have hcp := hcopy k W2 hkl hK2
      rw [hlit, hsl] at hcp
      have hcp : Calls Tryz.prog 90 #[.agg #[.string s, .int k1 n1, .int k2 n2, .int k3 n3, .int k4 n4, .int k5 n5, .int k6 n6, .bool b, .slice sa sn sc]] W2 fun en W' => (∃ a l c, en = Ending.returned (Value.agg (c8 k ++ [Value.slice a l c]).toArray)) ∧ Below W2.heap.size W2 W' := by rw [hlit]; exact hcp
      rw [hW2] at hcp
      have hkI : (k : Int) < 36 := by omega
      gi_wp2_with fail
      refine ⟨trivial, fun _ => by omega, ?_⟩
      refine ((callsIn_wide (n := _)).2 hcp).mono ?_
      rintro en W3 ⟨⟨a', l', c', hen⟩, hb3⟩
      rw [← hW2] at hb3
      have hg3 : wr.grownBy W3 none := ⟨hb3.os.trans hg2.os, hb3.tape.trans hg2.tape, hb3.output.trans hg2.output, Nat.le_trans hg2.size hb3.size, fun i hi hn => (hb3.block i (Nat.lt_of_lt_of_le hi hg2.size)).trans (hg2.block i hi (by simp))⟩
      have hJ3 : J pre W3 := hJa pre wr W3 none hJ hg3 (fun r e => by cases e)
      have hK3 : Kept Bar w.heap.size w W3 := hK.trans (Kept.of_grown hg3 hK.1)
      have hen : en = .returned (.agg #[.string s, .int k1 n1, .int k2 n2, .int k3 n3, .int k4 n4, .int k5 n5, .int k6 n6, .bool b, .slice a' l' c']) := by rw [hen, hlit]; rfl
      subst hen
      obtain ⟨fn, tmps, assign, body, hy, hR⟩ := hY pre (⟨k, hkl⟩, a', l', c') W3 hJ3 (by omega)
      have henc : enc (⟨k, hkl⟩, a', l', c') = .agg #[.string s, .int k1 n1, .int k2 n2, .int k3 n3, .int k4 n4, .int k5 n5, .int k6 n6, .bool b, .slice a' l' c'] := by unfold enc; rw [hlit]; rfl
      try dsimp only at hy
      rw [henc] at hy
      clear hcp hW2 hlit hsl q0 q1 q2 q3 q4 q5 q6 q7 q8
      gi_wp2
      refine ⟨fun _ => by omega, ?_⟩
      refine hR.mono ?_
      rintro e W4 (⟨rfl, hJ4, hK4⟩ | ⟨rfl, hJx4⟩)
      · have hK5 := hK3.trans hK4
        have hsz4 := Nat.le_trans hsz (Nat.le_trans hg3.size hK4.1)
        clear hy henc
        gi_wp2
        go_roundw
        case rel => exact ⟨k + 1, _, by omega, by go_num, by simp [hpre, List.range_succ], hJ4, hK5, hsz4⟩
        case measure => simp [intOf]; omega
      · clear hy henc
        gi_wp2
        refine bodyPost_ret (results_none rfl _ _ _) rfl ?_
        exact ⟨⟨_, rfl⟩, .inr ⟨_, trivial, hJx4⟩⟩
    · have : k = 36 := by omega
      subst this
      gi_wp2
      go_end0
      exact ⟨⟨_, rfl⟩, .inl ⟨_, hpre, hJ⟩⟩
end Go.Proofs.YtecmlefiajhajaaGreatDoor.tk
