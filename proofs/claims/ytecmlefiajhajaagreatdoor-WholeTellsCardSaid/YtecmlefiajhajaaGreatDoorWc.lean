/- Contracts over the whole book: whole.Book, lives, the reference's Book, same, book.Same, Seal. -/
import Derived.Test.YtecmlefiajhajaaGreatDoorWb
import Derived.Test.YtecmlefiajhajaaGreatDoorWf0
import Derived.Test.YtecmlefiajhajaaGreatDoorWf1
import Derived.Test.YtecmlefiajhajaaGreatDoorWf2
import Derived.Test.YtecmlefiajhajaaGreatDoorWf3
import Derived.Test.YtecmlefiajhajaaGreatDoorWg0
import Derived.Test.YtecmlefiajhajaaGreatDoorWg1
import Derived.Test.YtecmlefiajhajaaGreatDoorWg2
import Derived.Test.YtecmlefiajhajaaGreatDoorWe
import Derived.Test.YtecmlefiajhajaaGreatDoorWh
import Derived.LaidEqlPtr
namespace Go.Proofs.YtecmlefiajhajaaGreatDoor.ws
open Go.Sim Go.RowKit wh wr
set_option linter.unusedVariables false
set_option maxRecDepth 100000

theorem up_f : ∀ j, j < 6 → fillB (mask (([0, 1, 2, 3, 4, 5] : List Nat).take j)) (([0, 1, 2, 3, 4, 5] : List Nat).getD j 0) = true := fun j hj => by
  have : j = 0 ∨ j = 1 ∨ j = 2 ∨ j = 3 ∨ j = 4 ∨ j = 5 := by omega
  rcases this with rfl | rfl | rfl | rfl | rfl | rfl
  · exact f0_0
  · exact f1_1
  · exact f3_2
  · exact f7_3
  · exact f15_4
  · exact f31_5
theorem dn_f : ∀ j, j < 6 → fillB (mask (([5, 4, 3, 2, 1, 0] : List Nat).take j)) (([5, 4, 3, 2, 1, 0] : List Nat).getD j 0) = true := fun j hj => by
  have : j = 0 ∨ j = 1 ∨ j = 2 ∨ j = 3 ∨ j = 4 ∨ j = 5 := by omega
  rcases this with rfl | rfl | rfl | rfl | rfl | rfl
  · exact f0_5
  · exact f32_4
  · exact f48_3
  · exact f56_2
  · exact f60_1
  · exact f62_0
theorem up_g : ∀ j, j < 6 → rfillB (mask (([0, 1, 2, 3, 4, 5] : List Nat).take j)) (([0, 1, 2, 3, 4, 5] : List Nat).getD j 0) = true := fun j hj => by
  have : j = 0 ∨ j = 1 ∨ j = 2 ∨ j = 3 ∨ j = 4 ∨ j = 5 := by omega
  rcases this with rfl | rfl | rfl | rfl | rfl | rfl
  · exact g0_0
  · exact g1_1
  · exact g3_2
  · exact g7_3
  · exact g15_4
  · exact g31_5

theorem of_lit (l : List Nat) (h : (l.length == 6 && (List.range 6).all (fun i => l.contains i) && l.all (fun x => decide (x < 6))) = true) : l.length = 6 ∧ (∀ i, i < 6 → i ∈ l) ∧ ∀ x ∈ l, x < 6 := by
  simp only [Bool.and_eq_true, beq_iff_eq, List.all_eq_true, decide_eq_true_eq] at h
  exact ⟨h.1.1, fun i hi => by simpa using h.1.2 i (List.mem_range.2 hi), h.2⟩

set_option maxHeartbeats 4000000 in
theorem c_book (w : World) (hk : Known 1 kn.gl w) : Calls Tryz.prog 31 #[] w fun e w' => (∃ bk, e = .returned (.pointer (some ⟨bk, 0, none⟩)) ∧ ∃ Bar, w.heap.size ≤ Bar ∧ HoldsW w' Bar bk 63 true) ∧ Below w.heap.size w w' := by
  obtain ⟨h1, h2, h3⟩ := of_lit [0, 1, 2, 3, 4, 5] (by decide)
  have hc : ∀ j, j < 6 → (w.alloc (.cells #[.int .i64 0, .int .i64 1, .int .i64 2, .int .i64 3, .int .i64 4, .int .i64 5] 3)).cell? ⟨w.heap.size, j, none⟩ = some (.int .i64 (([0, 1, 2, 3, 4, 5] : List Nat).getD j 0)) := fun j hj => by
    rw [World.cell?_alloc_new]
    have : j = 0 ∨ j = 1 ∨ j = 2 ∨ j = 3 ∨ j = 4 ∨ j = 5 := by omega
    rcases this with rfl | rfl | rfl | rfl | rfl | rfl <;> rfl
  have hbA : Below w.heap.size w (w.alloc (.cells #[.int .i64 0, .int .i64 1, .int .i64 2, .int .i64 3, .int .i64 4, .int .i64 5] 3)) := (Below.refl _ w).alloc (Nat.le_refl _) _
  have hsz : w.heap.size < (w.alloc (.cells #[.int .i64 0, .int .i64 1, .int .i64 2, .int .i64 3, .int .i64 4, .int .i64 5] 3)).heap.size := by simp
  have hkA := knownW hk hbA
  obtain ⟨wA, hwA⟩ : ∃ x, x = w.alloc (.cells #[.int .i64 0, .int .i64 1, .int .i64 2, .int .i64 3, .int .i64 4, .int .i64 5] 3) := ⟨_, rfl⟩
  obtain ⟨bA, hbl⟩ : ∃ x, x = w.heap.size := ⟨_, rfl⟩
  rw [← hwA] at hc hbA hsz hkA
  rw [← hbl] at hc hsz
  go_enter Tryz.func31, Tryz.ntmps31
  go_wp2_with fail
  rw [← hwA, ← hbl]
  refine (c_again [0, 1, 2, 3, 4, 5] h1 h2 h3 up_f rfl bA 6 (by omega) wA hkA hsz hc).mono ?_
  rintro e w2 ⟨⟨bk, rfl, Bar, hB, hH⟩, hb2⟩
  have hbel := hbA.trans (hb2.mono hbA.size)
  have hB2 := Nat.le_trans hbA.size hB
  clear hwA hbl hc h1 h2 h3 hb2 hbA
  go_wp2
  go_ret
  exact ⟨⟨bk, rfl, Bar, hB2, hH⟩, hbel⟩
def livesFr : List (Nat × Value) := [(1, .pointer (some ⟨1, 0, none⟩)), (2, .int .i64 0)]
set_option maxHeartbeats 4000000 in
theorem c_lives (w : World) (hk : Known 1 kn.gl w) : Calls Tryz.prog 30 #[] w fun e w' => e = .returned (.bool true) ∧ Below w.heap.size w w' := by
  obtain ⟨h1, h2, h3⟩ := of_lit [5, 4, 3, 2, 1, 0] (by decide)
  have hc : ∀ j, j < 6 → (w.alloc (.cells #[.int .i64 5, .int .i64 4, .int .i64 3, .int .i64 2, .int .i64 1, .int .i64 0] 3)).cell? ⟨w.heap.size, j, none⟩ = some (.int .i64 (([5, 4, 3, 2, 1, 0] : List Nat).getD j 0)) := fun j hj => by
    rw [World.cell?_alloc_new]
    have : j = 0 ∨ j = 1 ∨ j = 2 ∨ j = 3 ∨ j = 4 ∨ j = 5 := by omega
    rcases this with rfl | rfl | rfl | rfl | rfl | rfl <;> rfl
  have hbA : Below w.heap.size w (w.alloc (.cells #[.int .i64 5, .int .i64 4, .int .i64 3, .int .i64 2, .int .i64 1, .int .i64 0] 3)) := (Below.refl _ w).alloc (Nat.le_refl _) _
  have hsz : w.heap.size < (w.alloc (.cells #[.int .i64 5, .int .i64 4, .int .i64 3, .int .i64 2, .int .i64 1, .int .i64 0] 3)).heap.size := by simp
  have hkA := knownW hk hbA
  obtain ⟨wA, hwA⟩ : ∃ x, x = w.alloc (.cells #[.int .i64 5, .int .i64 4, .int .i64 3, .int .i64 2, .int .i64 1, .int .i64 0] 3) := ⟨_, rfl⟩
  obtain ⟨bA, hbl⟩ : ∃ x, x = w.heap.size := ⟨_, rfl⟩
  rw [← hwA] at hc hbA hsz hkA
  rw [← hbl] at hc hsz
  go_enter Tryz.func30, Tryz.ntmps30
  go_wp2_with fail
  rw [← hwA, ← hbl]
  refine (c_again [5, 4, 3, 2, 1, 0] h1 h2 h3 dn_f rfl bA 6 (by omega) wA hkA hsz hc).mono ?_
  rintro e w2 ⟨⟨bk, rfl, Bar, hB, hH⟩, hb2⟩
  have hbel := hbA.trans (hb2.mono hbA.size)
  have hB2 := Nat.le_trans hbA.size hB
  clear hwA hbl hc h1 h2 h3 hb2 hbA
  go_upto_region 2 with (fail)
  obtain ⟨e0, k0, hRS, h0, hbk⟩ := hH
  refine Sim.tail_run (fuel := 60) (l := [_]) num mixed H_ok rfl ⟨_, _, rfl, (by assumption), fun _ _ _ h => h⟩ 24 livesFr (by kernel_rfl) rfl rfl (fun p hp => ?_) hRS (globs1 h0) (fun w' hb => ⟨rfl, hbel.trans (hb.mono hB2)⟩)
  rcases List.mem_cons.1 hp with rfl | hp
  · exact ⟨_, rfl, RV.ptr hbk⟩
  · obtain rfl := List.mem_singleton.1 hp
    exact ⟨_, rfl, rfl⟩
def six : List (Nat × KB) := [(0, { cells := idx 0 [.int .i64 0, .int .i64 1, .int .i64 2, .int .i64 3, .int .i64 4, .int .i64 5], size := 6, elem := 3, es := 1 })]
theorem orderB : callV Tryz.prog noHook 0 60 1 83 [.slice (some ⟨0, 0, none⟩) 6 big] (mkSt 1 [] six) (.bool true) (fun _ n => n) 1 [] [] = true := by kernel_rfl
theorem block_of_cell {w : World} {b i : Nat} {v : Value} (h : w.cell? ⟨b, i, none⟩ = some v) : ∃ cs t f, w.heap[b]? = some (.cells cs t f) := by
  unfold World.cell? at h
  split at h <;> simp_all
theorem cell_in {w : World} {b i : Nat} {v : Value} {cs : Array Value} {t : TypeId} {f : Nat × Nat} (hb : w.heap[b]? = some (.cells cs t f)) (h : w.cell? ⟨b, i, none⟩ = some v) : cs[i]? = some v := by
  simpa [World.cell?, hb] using h
theorem c_order (b cap : Nat) (hcap : 6 ≤ cap) (w : World) (hbl : b < w.heap.size) (hc : ∀ j, j < 6 → w.cell? ⟨b, j, none⟩ = some (.int .i64 (([0, 1, 2, 3, 4, 5] : List Nat).getD j 0))) :
    Calls Tryz.prog 83 #[.slice (some ⟨b, 0, none⟩) 6 cap] w fun e w' => e = .returned (.bool true) ∧ Below w.heap.size w w' := by
  obtain ⟨cs, t, f, hblk⟩ := block_of_cell (hc 0 (by omega))
  have hRS : RS 1 w.heap.size (fun i => if i = 0 then some (b, cap) else none) (mkSt 1 [] six) w := by
    refine RoL.rs (fun p hp => ?_) (fun p hp => ?_) (fun i hi => ⟨(b, cap), if_pos (by omega), hbl⟩) (fun i hi => if_neg (by omega))
    · obtain rfl := List.mem_singleton.1 hp
      refine ⟨b, cap, cs, t, f, rfl, hblk, fun q hq => ?_⟩
      simp only [idx, List.mem_cons, List.not_mem_nil, or_false] at hq
      rcases hq with rfl | rfl | rfl | rfl | rfl | rfl
      · exact ⟨_, cell_in hblk (hc 0 (by omega)), rfl⟩
      · exact ⟨_, cell_in hblk (hc 1 (by omega)), rfl⟩
      · exact ⟨_, cell_in hblk (hc 2 (by omega)), rfl⟩
      · exact ⟨_, cell_in hblk (hc 3 (by omega)), rfl⟩
      · exact ⟨_, cell_in hblk (hc 4 (by omega)), rfl⟩
      · exact ⟨_, cell_in hblk (hc 5 (by omega)), rfl⟩
    · obtain rfl := List.mem_singleton.1 hp
      refine ⟨by show 0 < 1000000; omega, fun q hq => ?_⟩
      simp only [idx, List.mem_cons, List.not_mem_nil, or_false] at hq
      rcases hq with rfl | rfl | rfl | rfl | rfl | rfl <;> (show _ < 1000000; omega)
  refine (callV_ok num mixed noHook_ok orderB hRS (fun g hg => absurd hg (by omega)) (args' := [.slice (some ⟨b, 0, none⟩) 6 cap]) ⟨_, _, ⟨b, cap, rfl, rfl, rfl, fun _ => hcap⟩, rfl, rfl⟩).mono fun en w' ⟨⟨e2, v', hen, hv, h1, h2⟩, hb⟩ => ?_
  exact ⟨by rw [hen, RV.flat_eq rfl hv], hb⟩
set_option maxHeartbeats 4000000 in
theorem c_rbook (w : World) (hk : Known 1 kn.gl w) : Calls Tryz.prog 47 #[] w fun e w' => (∃ bk, e = .returned (.pointer (some ⟨bk, 0, none⟩)) ∧ ∃ Bar, w.heap.size ≤ Bar ∧ HoldsF w' Bar bk) ∧ Below w.heap.size w w' := by
  obtain ⟨h1, h2, h3⟩ := of_lit [0, 1, 2, 3, 4, 5] (by decide)
  have hc : ∀ j, j < 6 → (w.alloc (.cells #[.int .i64 0, .int .i64 1, .int .i64 2, .int .i64 3, .int .i64 4, .int .i64 5] 3)).cell? ⟨w.heap.size, j, none⟩ = some (.int .i64 (([0, 1, 2, 3, 4, 5] : List Nat).getD j 0)) := fun j hj => by
    rw [World.cell?_alloc_new]
    have : j = 0 ∨ j = 1 ∨ j = 2 ∨ j = 3 ∨ j = 4 ∨ j = 5 := by omega
    rcases this with rfl | rfl | rfl | rfl | rfl | rfl <;> rfl
  have hbA : Below w.heap.size w (w.alloc (.cells #[.int .i64 0, .int .i64 1, .int .i64 2, .int .i64 3, .int .i64 4, .int .i64 5] 3)) := (Below.refl _ w).alloc (Nat.le_refl _) _
  have hsz : w.heap.size < (w.alloc (.cells #[.int .i64 0, .int .i64 1, .int .i64 2, .int .i64 3, .int .i64 4, .int .i64 5] 3)).heap.size := by simp
  have hkA := knownW hk hbA
  obtain ⟨wA, hwA⟩ : ∃ x, x = w.alloc (.cells #[.int .i64 0, .int .i64 1, .int .i64 2, .int .i64 3, .int .i64 4, .int .i64 5] 3) := ⟨_, rfl⟩
  obtain ⟨bA, hbl⟩ : ∃ x, x = w.heap.size := ⟨_, rfl⟩
  rw [← hwA] at hc hbA hsz hkA
  rw [← hbl] at hc hsz
  go_enter Tryz.func47, Tryz.ntmps47
  go_wp2_with fail
  rw [← hwA, ← hbl]
  refine (c_ragain [0, 1, 2, 3, 4, 5] h1 h3 up_g rfl bA 6 wA hkA hsz hc (c_order bA 6 (by omega) wA hsz hc)).mono ?_
  rintro e w2 ⟨⟨bk, rfl, Bar, hB, hH⟩, hb2⟩
  have hbel := hbA.trans (hb2.mono hbA.size)
  have hB2 := Nat.le_trans hbA.size hB
  clear hwA hbl hc h1 h2 h3 hb2 hbA
  go_wp2
  go_ret
  exact ⟨⟨bk, rfl, Bar, hB2, hH⟩, hbel⟩
theorem c_same {w : World} {BA ba BF bf : Nat} (hA : HoldsW w BA ba 63 true) (hF : HoldsF w BF bf) :
    Calls Tryz.prog 45 #[.pointer (some ⟨ba, 0, none⟩), .pointer (some ⟨bf, 0, none⟩)] w fun e w' => e = .returned (.bool true) ∧ Below w.heap.size w w' := by
  obtain ⟨eA, kA, a1, a2, a3⟩ := hA
  obtain ⟨eF, kF, b1, b2, b3⟩ := hF
  obtain ⟨eA', p1, p2⟩ := a1.rename rnA
  obtain ⟨eF', q1, q2⟩ := b1.rename rnF2
  obtain ⟨e, r1, r2, r3⟩ := rs_merge p1 q1 ckA ckF2 (by omega)
  have h0 : e 0 = some (0, 0) := by rw [r2 0 (by omega), p2 0 (by omega)]; exact a2
  have h1 : e 1 = some (ba, kA) := by rw [r2 1 (by omega), p2 1 (by omega)]; exact a3
  have h39 : e 39 = some (bf, kF) := by rw [r3 39 (by omega), q2 39 (by omega)]; exact b3
  refine (callV_ok num mixed H_ok sameB r1 (globs1 h0) (args' := [.pointer (some ⟨ba, 0, none⟩), .pointer (some ⟨bf, 0, none⟩)]) ⟨_, _, RV.ptr h1, ⟨_, _, RV.ptr h39, rfl, rfl⟩, rfl⟩).mono fun en w' ⟨⟨e2, v', hen, hv, _, _⟩, hb⟩ => ?_
  exact ⟨by rw [hen, RV.flat_eq rfl hv], hb⟩
theorem c_bsame {w : World} {BA ba BF bf : Nat} (hA : HoldsW w BA ba 63 true) (hF : HoldsW w BF bf 63 true) :
    Calls Tryz.prog 46 #[.pointer (some ⟨ba, 0, none⟩), .pointer (some ⟨bf, 0, none⟩)] w fun e w' => e = .returned (.bool true) ∧ Below w.heap.size w w' := by
  obtain ⟨eA, kA, a1, a2, a3⟩ := hA
  obtain ⟨eF, kF, b1, b2, b3⟩ := hF
  obtain ⟨eA', p1, p2⟩ := a1.rename rnA
  obtain ⟨eF', q1, q2⟩ := b1.rename rnA2
  obtain ⟨e, r1, r2, r3⟩ := rs_merge p1 q1 ckA ckA2 (by omega)
  have h0 : e 0 = some (0, 0) := by rw [r2 0 (by omega), p2 0 (by omega)]; exact a2
  have h1 : e 1 = some (ba, kA) := by rw [r2 1 (by omega), p2 1 (by omega)]; exact a3
  have h39 : e 39 = some (bf, kF) := by rw [r3 39 (by omega), q2 39 (by omega)]; exact b3
  refine (callV_ok num mixed H_ok bsameB r1 (globs1 h0) (args' := [.pointer (some ⟨ba, 0, none⟩), .pointer (some ⟨bf, 0, none⟩)]) ⟨_, _, RV.ptr h1, ⟨_, _, RV.ptr h39, rfl, rfl⟩, rfl⟩).mono fun en w' ⟨⟨e2, v', hen, hv, _, _⟩, hb⟩ => ?_
  exact ⟨by rw [hen, RV.flat_eq rfl hv], hb⟩
theorem c_shut {Bar bk : Nat} {w : World} (h : HoldsW w Bar bk 63 true) :
    Calls Tryz.prog 44 #[.pointer (some ⟨bk, 0, none⟩)] w fun en w' => en = .returned (.int .i64 7) ∧ HoldsW w' Bar bk 63 true ∧ Below Bar w w' := by
  obtain ⟨e, c, hS, h0, hbk⟩ := h
  refine (callV_ok num mixed H_ok shutB hS (globs1 h0) (args' := [.pointer (some ⟨bk, 0, none⟩)]) ⟨_, _, RV.ptr hbk, rfl, rfl⟩).mono fun en w' ⟨⟨e2, v', hen, hv, h1, h2⟩, hb⟩ => ?_
  refine ⟨by rw [hen, RV.flat_eq rfl hv], ⟨e2, c, h1, ?_, ?_⟩, hb⟩
  · rw [h2 0 (by omega) (fun _ => rfl) (show 0 < 38 by omega)]; exact h0
  · rw [h2 1 (by omega) (fun _ => rfl) (show 1 < 38 by omega)]; exact hbk
theorem apart {w1 w2 : World} {BA ba BB bb T U : Nat} {s1 s2 : Bool} (hA : HoldsW w1 BA ba T s1) (hB : HoldsW w2 BB bb U s2) (h : w1.heap.size ≤ BB) : ba ≠ bb := by
  obtain ⟨eA, kA, a1, a2, a3⟩ := hA
  obtain ⟨eF, kF, b1, b2, b3⟩ := hB
  have h1 := a1.hi 1 _ _ a3
  have h2 := b1.bar 1 _ _ b3 (by omega)
  omega
theorem blockW {w : World} {B b T : Nat} {s : Bool} (h : HoldsW w B b T s) : ∃ cs ty, w.heap[b]? = some (.cells cs ty (0, 0)) := by
  obtain ⟨e, k, a1, a2, a3⟩ := h
  obtain ⟨b', k', g1, cs, g2, -⟩ := a1.blk 1 _ (show (blOf (hpW T s)).get 1 = some _ by unfold hpW; rw [blOf_cons, get_set _ _ _ _ (by omega), if_pos rfl])
  rw [a3] at g1
  cases g1
  exact ⟨cs, _, g2⟩
theorem infoB : ∃ j : TypeInfo, Tryz.prog.info? 129 = some j ∧ j.size ≠ 0 := by
  have h : (Tryz.prog.info? 129).map (·.size) = some 608 := by kernel_rfl
  cases hi : Tryz.prog.info? 129 with
  | none => rw [hi] at h; cases h
  | some i => rw [hi] at h; exact ⟨i, rfl, by have h2 : i.size = 608 := Option.some.inj h; omega⟩
theorem ptr_eql {w : World} {BA ba BB bb T U : Nat} {s1 s2 : Bool} (hA : HoldsW w BA ba T s1) (hB : HoldsW w BB bb U s2) (hne : ba ≠ bb) :
    (binOp .eql 30 (.pointer (some ⟨ba, 0, none⟩)) (.pointer (some ⟨bb, 0, none⟩))).run Tryz.prog w = .ok (.bool false) w := by
  obtain ⟨c1, t1, h1⟩ := blockW hA
  obtain ⟨c2, t2, h2⟩ := blockW hB
  obtain ⟨j, hj, hsz⟩ := infoB
  exact run_eql_ptr_other w (show Tryz.prog.underlying 30 = some (.pointer 129) by kernel_rfl) hj hsz (fun h => hne (by injection h)) h1 h2
theorem ptr_neq {w : World} {BA ba BB bb T U : Nat} {s1 s2 : Bool} (hA : HoldsW w BA ba T s1) (hB : HoldsW w BB bb U s2) (hne : ba ≠ bb) :
    (binOp .neq 30 (.pointer (some ⟨ba, 0, none⟩)) (.pointer (some ⟨bb, 0, none⟩))).run Tryz.prog w = .ok (.bool true) w := by
  have h := ptr_eql hA hB hne
  simp only [binOp] at h ⊢
  simp [Sem.run_bind] at h ⊢
  cases hx : (Op.equal 30 (.pointer (some ⟨ba, 0, none⟩)) (.pointer (some ⟨bb, 0, none⟩))).run Tryz.prog w with
  | ok b w' => rw [hx] at h; simp at h; obtain ⟨rfl, rfl⟩ := h; rfl
  | halt e w' => rw [hx] at h; simp at h
end Go.Proofs.YtecmlefiajhajaaGreatDoor.ws
