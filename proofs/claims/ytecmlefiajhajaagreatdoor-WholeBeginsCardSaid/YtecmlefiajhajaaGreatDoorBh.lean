/- The numbers that gambitref14.Log tells; whole.Log, and what is told of it, by the executor, lives by its contract. -/
import Derived.Test.YtecmlefiajhajaaGreatDoorBg
import Derived.Test.YtecmlefiajhajaaGreatDoorWc
import Derived.Test.YtecmlefiajhajaaGreatDoorAi
namespace Go.Proofs.YtecmlefiajhajaaGreatDoor.bh
open Go.Sim Go.RowKit wh ws
set_option linter.unusedVariables false
set_option maxRecDepth 100000
def numsKB : KB := { cells := idx 0 [.int .i64 102, .int .i64 103, .int .i64 203, .int .i64 104, .int .i64 204, .int .i64 108, .int .i64 208, .int .i64 308, .int .i64 109, .int .i64 209, .int .i64 309, .int .i64 110, .int .i64 210, .int .i64 310, .int .i64 111, .int .i64 211, .int .i64 311, .int .i64 112, .int .i64 212, .int .i64 312, .int .i64 113, .int .i64 213, .int .i64 313, .int .i64 114], size := 24, elem := 3, es := 1 }
theorem logB : callV Tryz.prog noHook 0 60 0 52 [] (S0 0) (.slice (some ⟨0, 0, none⟩) 24 big) (fun S1 _ => match S1.next with | 0 => 0 | n + 1 => n) 1 [] [(0, numsKB)] = true := by kernel_rfl
theorem start0 (w : World) : RS 0 w.heap.size (fun _ => none) (S0 0) w :=
  ⟨fun n B h => by simp [S0, Tr.get] at h, fun n B h => by simp [S0, Tr.get] at h, fun n m B C b k k' h => by simp [S0, Tr.get] at h, fun n m B C b k k' h => by simp [S0, Tr.get] at h,
    fun n hn => rfl, fun n b k hn => (by cases hn), fun n b k hn => (by cases hn), Nat.le_refl _, Nat.le_refl _, fun n hn => absurd hn (Nat.not_lt_zero n),
    fun n l h => by simp [S0, Tr.get] at h, fun n m l l' b k k' h => by simp [S0, Tr.get] at h, fun n B h => by simp [S0, Tr.get] at h, fun n m B C b k k' h => by simp [S0, Tr.get] at h, fun n m B C b k k' h => by simp [S0, Tr.get] at h⟩
theorem nums_tab : (match (blOf [(0, numsKB)]).get 0 with | some B => (List.range 24).all fun i => (match B.get i, ([.int .i64 102, .int .i64 103, .int .i64 203, .int .i64 104, .int .i64 204, .int .i64 108, .int .i64 208, .int .i64 308, .int .i64 109, .int .i64 209, .int .i64 309, .int .i64 110, .int .i64 210, .int .i64 310, .int .i64 111, .int .i64 211, .int .i64 311, .int .i64 112, .int .i64 212, .int .i64 312, .int .i64 113, .int .i64 213, .int .i64 313, .int .i64 114] : List Value)[i]? with | some u, some v => eqC u v && flat u | _, _ => false) | none => false) = true := by kernel_rfl
theorem nums_val : ∀ j, j < 24 → ([.int .i64 102, .int .i64 103, .int .i64 203, .int .i64 104, .int .i64 204, .int .i64 108, .int .i64 208, .int .i64 308, .int .i64 109, .int .i64 209, .int .i64 309, .int .i64 110, .int .i64 210, .int .i64 310, .int .i64 111, .int .i64 211, .int .i64 311, .int .i64 112, .int .i64 212, .int .i64 312, .int .i64 113, .int .i64 213, .int .i64 313, .int .i64 114] : List Value)[j]? = some (.int .i64 (bw.nums.getD j 0)) := fun j hj => by
  match j, hj with
  | 0, _ => rfl
  | 1, _ => rfl
  | 2, _ => rfl
  | 3, _ => rfl
  | 4, _ => rfl
  | 5, _ => rfl
  | 6, _ => rfl
  | 7, _ => rfl
  | 8, _ => rfl
  | 9, _ => rfl
  | 10, _ => rfl
  | 11, _ => rfl
  | 12, _ => rfl
  | 13, _ => rfl
  | 14, _ => rfl
  | 15, _ => rfl
  | 16, _ => rfl
  | 17, _ => rfl
  | 18, _ => rfl
  | 19, _ => rfl
  | 20, _ => rfl
  | 21, _ => rfl
  | 22, _ => rfl
  | 23, _ => rfl
  | n + 24, h => omega
theorem c_log (w : World) : Calls Tryz.prog 52 #[] w fun e w' => (∃ nb cap, e = .returned (.slice (some ⟨nb, 0, none⟩) 24 cap) ∧ 24 ≤ cap ∧ w.heap.size ≤ nb ∧ nb < w'.heap.size ∧ ∀ j, j < 24 → w'.cell? ⟨nb, j, none⟩ = some (.int .i64 (bw.nums.getD j 0))) ∧ Below w.heap.size w w' := by
  refine (callV_ok num mixed noHook_ok logB (start0 w) (fun g hg => absurd hg (by omega)) (args' := []) rfl).mono fun en w' ⟨⟨e2, v', hen, hv, h1, h2⟩, hb⟩ => ⟨?_, hb⟩
  rw [RV] at hv
  obtain ⟨nb, cap, g1, g2, g3, g4⟩ := hv
  have g1 : e2 0 = some (nb, cap) := g1
  refine ⟨nb, cap, by rw [hen, g3, if_pos rfl], g4 rfl, h1.bar 0 _ _ g1 (Nat.zero_le _), h1.hi 0 _ _ g1, fun j hj => ?_⟩
  have h := nums_tab
  split at h
  · rename_i B hB
    have := List.all_eq_true.1 h j (List.mem_range.2 hj)
    split at this
    · rename_i u v1 hu hv1
      rw [nums_val j hj] at hv1
      cases hv1
      rw [Bool.and_eq_true] at this
      rw [eqC_spec this.1] at hu this
      exact h1.roCell hB g1 hu this.2
    · cases this
  · cases h

theorem wlogB : callV Tryz.prog noHook 0 60 0 56 [] (S0 0) (.slice (some ⟨0, 0, none⟩) 24 big) (fun S1 _ => match S1.next with | 0 => 0 | n + 1 => n) 1 [(0, numsKB)] [] = true := by kernel_rfl
/-- a list of the numbers in a block of its own -/
def Told (w : World) (b c : Nat) : Prop := 24 ≤ c ∧ WholeB w 3 1 (b, 24, c) ∧ ∀ j, j < 24 → w.cell? ⟨b, j, none⟩ = some (.int .i64 (bw.nums.getD j 0))
theorem c_wlog (w : World) : Calls Tryz.prog 56 #[] w fun e w' => (∃ nb cap, e = .returned (.slice (some ⟨nb, 0, none⟩) 24 cap) ∧ w.heap.size ≤ nb ∧ nb < w'.heap.size ∧ Told w' nb cap) ∧ Below w.heap.size w w' := by
  refine (callV_ok num mixed noHook_ok wlogB (start0 w) (fun g hg => absurd hg (by omega)) (args' := []) rfl).mono fun en w' ⟨⟨e2, v', hen, hv, h1, h2⟩, hb⟩ => ⟨?_, hb⟩
  rw [RV] at hv
  obtain ⟨nb, cap, g1, g2, g3, g4⟩ := hv
  have g1 : e2 0 = some (nb, cap) := g1
  have hcap := g4 rfl
  have hBl : (blOf [(0, numsKB)]).get 0 = some numsKB.blk := by rw [blOf_cons, get_set _ _ _ _ (by omega), if_pos rfl]
  obtain ⟨b', k', q1, cs, q2, -, q3, q4, q5⟩ := h1.blk 0 _ hBl
  rw [g1] at q1
  cases q1
  obtain ⟨q6, q7⟩ := q3 (by decide)
  refine ⟨nb, cap, by rw [hen, g3, if_pos rfl], h1.bar 0 _ _ g1 (Nat.zero_le _), h1.hi 0 _ _ g1, hcap, ⟨cs, q2, q6, hcap, q7⟩, fun j hj => ?_⟩
  have h := nums_tab
  rw [hBl] at h
  have := List.all_eq_true.1 h j (List.mem_range.2 hj)
  split at this
  · rename_i u v1 hu hv1
    rw [nums_val j hj] at hv1
    cases hv1
    rw [Bool.and_eq_true] at this
    rw [eqC_spec this.1] at hu this
    obtain ⟨v', r1, r2⟩ := q5 _ _ hu
    rw [RV.flat_eq this.2 r2] at r1
    simp [World.cell?, q2, r1]
  · cases this
theorem Told.kept {w w' : World} {b c : Nat} (h : Told w b c) (hb : Below w.heap.size w w') : Told w' b c := by
  obtain ⟨h1, ⟨cs, h2, h3⟩, h4⟩ := h
  have hlt := (Array.getElem?_eq_some_iff.1 h2).1
  exact ⟨h1, ⟨cs, (hb.block b hlt).trans h2, h3⟩, fun j hj => (hb.cell (p := ⟨b, j, none⟩) hlt).trans (h4 j hj)⟩
theorem Told.ints {w : World} {b c : Nat} (h : Told w b c) : lg.Ints w (.slice (some ⟨b, 0, none⟩) 24 c) bw.nums :=
  ⟨some ⟨b, 0, none⟩, c, rfl, fun i hi => ⟨b, rfl, fun j hj => h.2.2 j hj⟩, by unfold maxLen; decide⟩
theorem Told.lt {w : World} {b c : Nat} (h : Told w b c) : b < w.heap.size := by
  obtain ⟨h1, ⟨cs, h2, h3⟩, h4⟩ := h
  exact (Array.getElem?_eq_some_iff.1 h2).1
/-- two such lists, handed to ApartInts -/
theorem c_apart {w : World} {b1 c1 b2 c2 : Nat} (h1 : Told w b1 c1) (h2 : Told w b2 c2) (hne : b1 ≠ b2) :
    Calls Tryz.prog 21 #[.slice (some ⟨w.heap.size, 0, none⟩) 2 2] (w.alloc (.cells #[.slice (some ⟨b1, 0, none⟩) 24 c1, .slice (some ⟨b2, 0, none⟩) 24 c2] 50)) fun e w' => e = .returned (.bool true) ∧ Spoils [b1, b2] w w' := by
  have hA : Below w.heap.size w (w.alloc (.cells #[.slice (some ⟨b1, 0, none⟩) 24 c1, .slice (some ⟨b2, 0, none⟩) 24 c2] 50)) := (Below.refl _ w).alloc (Nat.le_refl _) _
  have k1 := h1.kept hA
  have k2 := h2.kept hA
  have l1 := h1.lt
  have l2 := h2.lt
  refine (ai.apart _ w.heap.size 0 2 [(b1, 24, c1), (b2, 24, c2)] ⟨fun i x hx => ?_, fun x hx => ?_, by simpa using hne, fun x hx => ?_, by simp⟩ (by simp) (by simp)).mono fun e w' ⟨he, hs⟩ => ⟨he, (Spoils.of_below _ hA).trans hs⟩
  · rw [Nat.zero_add, World.cell?_alloc_new]
    match i, hx with
    | 0, hx => cases hx; rfl
    | 1, hx => cases hx; rfl
    | n + 2, hx => simp at hx
  · rcases List.mem_cons.1 hx with rfl | hx
    · exact k1.2.1
    · obtain rfl := List.mem_singleton.1 hx
      exact k2.2.1
  · rcases List.mem_cons.1 hx with rfl | hx
    · show b1 ≠ _; omega
    · obtain rfl := List.mem_singleton.1 hx
      show b2 ≠ _; omega

/-- is the variable trait.names known? -/
noncomputable def knowsG (S : St) : Bool := match S.ro.get 0 with
  | some B => (List.range 9).all fun i => (match B.get i, (kn.names.map Value.string)[i]? with | some u, some v => eqC u v && flat u | _, _ => false)
  | none => false
theorem known_of_rs {NG Bar : Nat} {e : Env} {S : St} {w : World} (hS : RS NG Bar e S w) (h0 : e 0 = some (0, 0)) (h : knowsG S = true) : Known 1 kn.gl w := by
  unfold knowsG at h
  split at h
  · rename_i B hB
    obtain ⟨b, k, g1, cs, t, f, g2, g3⟩ := hS.ro 0 B hB
    rw [h0] at g1
    cases g1
    have hsz := hS.hi 0 _ _ h0
    have hc : ∀ i v, (kn.names.map Value.string)[i]? = some v → w.cell? ⟨0, i, none⟩ = some v := fun i v hv => by
      have hi : i < 9 := (List.getElem?_eq_some_iff.1 hv).1
      have := List.all_eq_true.1 h i (List.mem_range.2 hi)
      split at this
      · rename_i u v1 hu hv1
        rw [hv] at hv1
        cases hv1
        rw [Bool.and_eq_true] at this
        rw [eqC_spec this.1] at hu this
        exact hS.roCell hB h0 hu this.2
      · cases this
    refine ⟨Nat.succ_le_of_lt hsz, fun p hp => ?_⟩
    have hp' : p = (0, kn.names.map Value.string) := by simpa [kn.gl] using hp
    subst hp'
    exact ⟨by decide, by decide, rfl, by simp [kn.names], hc⟩
  · cases h
noncomputable def livesH : CallT := fun NG f args S => br (Nat.beq f 30 && knowsG S) (match args with | [] => some (.bool true, S) | _ => none) none
theorem livesH_ok : CallOK Tryz.prog 1 livesH := by
  refine ⟨fun {NG f args S r} h => ?_, fun {NG Bar f args S v S' e w args'} h hargs hS hG => ?_⟩
  · unfold livesH at h
    rw [br_eq] at h
    split at h
    · rename_i hc
      rw [Bool.and_eq_true, beq_dec] at hc
      have hid : f = 30 := of_decide_eq_true hc.1
      subst hid
      exact ⟨_, Tryz.func30, rfl⟩
    · cases h
  · unfold livesH at h
    rw [br_eq] at h
    split at h
    · rename_i hc
      rw [Bool.and_eq_true, beq_dec] at hc
      have hid : f = 30 := of_decide_eq_true hc.1
      subst hid
      split at h
      · cases h
        rw [RVL] at hargs
        subst hargs
        refine (c_lives w (known_of_rs hS (hG 0 (by omega)) hc.2)).mono fun en w' ⟨h1, h2⟩ => ?_
        exact ⟨e, .bool true, h1, Sub.refl _, rfl, (Cl.keep ⟨hS, Below.refl _ _⟩ hS h2).1, hS.low_below h2⟩
      · cases h
    · cases h
def two : List (Nat × KB) := [(0, gKB), (1, numsKB)]
/-- the state for the rest: the variable, the numbers -/
theorem st_two {w : World} {nb cap : Nat} (hk : Known 1 kn.gl w) (hn : nb < w.heap.size) (hc : ∀ j, j < 24 → w.cell? ⟨nb, j, none⟩ = some (.int .i64 (bw.nums.getD j 0))) :
    ∃ e, RS 2 w.heap.size e (mkSt 2 [] two) w ∧ e 0 = some (0, 0) ∧ e 1 = some (nb, cap) := by
  obtain ⟨eA, hA, hA0⟩ := wh.start w hk
  obtain ⟨cs, t, f, hblk⟩ := block_of_cell (hc 0 (by omega))
  have hF : RS 2 w.heap.size (fun i => if i = 0 then some (0, 0) else if i = 1 then some (nb, cap) else none) (mkSt 2 [] [(1, numsKB)]) w := by
    refine RoL.rs (fun p hp => ?_) (fun p hp => ?_) (fun i hi => ?_) (fun i hi => by rw [if_neg (by omega), if_neg (by omega)])
    · obtain rfl := List.mem_singleton.1 hp
      refine ⟨nb, cap, cs, t, f, rfl, hblk, fun q hq => ?_⟩
      obtain ⟨hq1, hq2⟩ : q.1 < 24 ∧ ([.int .i64 102, .int .i64 103, .int .i64 203, .int .i64 104, .int .i64 204, .int .i64 108, .int .i64 208, .int .i64 308, .int .i64 109, .int .i64 209, .int .i64 309, .int .i64 110, .int .i64 210, .int .i64 310, .int .i64 111, .int .i64 211, .int .i64 311, .int .i64 112, .int .i64 212, .int .i64 312, .int .i64 113, .int .i64 213, .int .i64 313, .int .i64 114] : List Value)[q.1]? = some q.2 := by
        simp only [numsKB, idx, List.mem_cons, List.not_mem_nil, or_false] at hq
        rcases hq with rfl | rfl | rfl | rfl | rfl | rfl | rfl | rfl | rfl | rfl | rfl | rfl | rfl | rfl | rfl | rfl | rfl | rfl | rfl | rfl | rfl | rfl | rfl | rfl <;> exact ⟨by decide, rfl⟩
      rw [nums_val _ hq1] at hq2
      cases hq2' : q.2 with
      | int k n => rw [hq2'] at hq2; cases hq2; exact ⟨_, cell_in hblk (hc q.1 hq1), rfl⟩
      | _ => rw [hq2'] at hq2; cases hq2
    · obtain rfl := List.mem_singleton.1 hp
      refine ⟨by show 1 < 1000000; omega, fun q hq => ?_⟩
      simp only [numsKB, idx, List.mem_cons, List.not_mem_nil, or_false] at hq
      rcases hq with rfl | rfl | rfl | rfl | rfl | rfl | rfl | rfl | rfl | rfl | rfl | rfl | rfl | rfl | rfl | rfl | rfl | rfl | rfl | rfl | rfl | rfl | rfl | rfl <;> (show _ < 1000000; omega)
    · have : i = 0 ∨ i = 1 := by omega
      rcases this with rfl | rfl
      · exact ⟨(0, 0), rfl, hA.hi 0 _ _ hA0⟩
      · exact ⟨(nb, cap), rfl, hn⟩
  obtain ⟨e, h1, h2, h3⟩ := rs_merge hA hF (by kernel_rfl) (by kernel_rfl) (by omega)
  exact ⟨e, h1, (h2 0 (by omega)).trans hA0, (h3 1 (by omega)).trans rfl⟩
end Go.Proofs.YtecmlefiajhajaaGreatDoor.bh
