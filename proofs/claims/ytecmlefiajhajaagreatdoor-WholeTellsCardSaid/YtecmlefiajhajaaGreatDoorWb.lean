/- gambitref14.Again at an order of the six suits: the reference's book of all six, sealed. -/
import Derived.Test.YtecmlefiajhajaaGreatDoorWr
import Derived.Test.YtecmlefiajhajaaGreatDoorWa
namespace Go.Proofs.YtecmlefiajhajaaGreatDoor.wr
open Go.Sim Go.RowKit wh
set_option linter.unusedVariables false
set_option maxRecDepth 100000

/-- the reference's book ahead of the lists that it is filled with -/
def HoldsN (w : World) (Bar bk : Nat) : Prop := ∃ e k, RS 1 Bar e (mkSt 39 (hpR 0 false) [(0, gKB)]) w ∧ e 0 = some (0, 0) ∧ e 1 = some (bk, k)
/-- the reference's book that holds the suits of a set, and these lists -/
def HoldsR (w : World) (Bar bk fb T : Nat) : Prop := ∃ e k kf, RS 1 Bar e (stR T false) w ∧ e 0 = some (0, 0) ∧ e 1 = some (bk, k) ∧ e 39 = some (fb, kf)
/-- the reference's book of all six, sealed -/
def HoldsF (w : World) (Bar bk : Nat) : Prop := ∃ e k, RS 1 Bar e (mkSt 39 (hpR 63 true) (roC (lW 63))) w ∧ e 0 = some (0, 0) ∧ e 1 = some (bk, k)
theorem HoldsF.kept {w w' : World} {Bar bk : Nat} (h : HoldsF w Bar bk) (hb : Below w.heap.size w w') : HoldsF w' Bar bk := by
  obtain ⟨e, k, h1, h2, h3⟩ := h
  exact ⟨e, k, (Cl.keep ⟨h1, Below.refl _ _⟩ h1 hb).1, h2, h3⟩

theorem c_rnew (w : World) (hk : Known 1 kn.gl w) : Calls Tryz.prog 25 #[] w fun en w' => (∃ bk, en = .returned (.pointer (some ⟨bk, 0, none⟩)) ∧ HoldsN w' w.heap.size bk) ∧ Below w.heap.size w w' := by
  obtain ⟨e, hS, h0⟩ := wh.start w hk
  refine (callV_ok num mixed H_ok rnewB hS (globs1 h0) (args' := []) rfl).mono fun en w' ⟨⟨e2, v', hen, hv, h1, h2⟩, hb⟩ => ⟨?_, hb⟩
  rw [RV] at hv
  obtain ⟨bk, k, g1, g2, g3⟩ := hv
  refine ⟨bk, by rw [hen, g3], e2, k, h1, ?_, g1⟩
  rw [h2 0 (by omega) (fun _ => rfl) (by show 0 < 1; omega)]
  exact h0
theorem c_rfills {Bar bk : Nat} {w : World} (h : HoldsN w Bar bk) : Calls Tryz.prog 80 #[] w fun en w' => (∃ fb, en = .returned (.slice (some ⟨fb, 0, none⟩) 6 6) ∧ HoldsR w' Bar bk fb 0) ∧ Below Bar w w' := by
  obtain ⟨e, c, hS, h0, hbk⟩ := h
  refine (callV_ok num mixed H_ok rfillsB hS (globs1 h0) (args' := []) rfl).mono fun en w' ⟨⟨e2, v', hen, hv, h1, h2⟩, hb⟩ => ⟨?_, hb⟩
  rw [RV] at hv
  obtain ⟨fb, k, g1, g2, g3, -⟩ := hv
  have hne : ¬ ((6 : Nat) = big) := by decide
  rw [if_neg hne] at g3
  refine ⟨fb, by rw [hen, g3], e2, c, k, h1, ?_, ?_, g1⟩
  · rw [h2 0 (by omega) (fun _ => rfl) (by show 0 < 39; omega)]; exact h0
  · rw [h2 1 (by omega) (fun _ => rfl) (by show 1 < 39; omega)]; exact hbk
theorem fillV_eq : ∀ k, k < 6 → fillV k = .agg ⟨(fillsL.drop (5 * k)).take 5⟩ := fun k hk => by
  have : k = 0 ∨ k = 1 ∨ k = 2 ∨ k = 3 ∨ k = 4 ∨ k = 5 := by omega
  rcases this with rfl | rfl | rfl | rfl | rfl | rfl <;> rfl
theorem blOf_skip : ∀ {l1 l2 : List (Nat × KB)} {n : Nat}, (∀ p ∈ l1, p.1 < 1000000 ∧ p.1 ≠ n) → (blOf (l1 ++ l2)).get n = (blOf l2).get n
  | [], _, _, _ => rfl
  | p :: l1, l2, n, h => by
    obtain ⟨h1, h2⟩ := h p (List.mem_cons_self ..)
    rw [List.cons_append, blOf_cons, get_set _ _ _ _ (by omega), if_neg (fun e => h2 e.symm)]
    exact blOf_skip fun q hq => h q (List.mem_cons_of_mem _ hq)
theorem order_lt : (order.all fun j => Nat.blt j 36) = true := by kernel_rfl
theorem roC_lt (T : Nat) : ∀ p ∈ roC (lW T), p.1 < 39 := fun p hp => by
  unfold roC at hp
  rcases List.mem_cons.1 hp with rfl | hp
  · show 0 < 39; omega
  rcases List.mem_cons.1 hp with rfl | hp
  · show 2 < 39; omega
  unfold roP at hp
  obtain ⟨j, hj, hjp⟩ := List.mem_filterMap.1 hp
  have hj36 := List.all_eq_true.1 order_lt j (List.mem_filter.1 hj).1
  rw [blt_dec] at hj36
  have hj36 := of_decide_eq_true hj36
  split at hjp
  · cases hjp
  · cases hjp
    show 2 + 1 + j < 39
    omega
theorem fills_tab : (match (blOf roFills).get 39 with | some B => (List.range 30).all fun i => (match B.get i, fillsL[i]? with | some u, some v => eqC u v | _, _ => false) | none => false) = true := by kernel_rfl
theorem fills_get (T : Nat) : ∃ B, (blOf (roR T)).get 39 = some B ∧ ∀ i v, fillsL[i]? = some v → B.get i = some v := by
  have h := fills_tab
  unfold roR
  rw [blOf_skip fun p hp => by have := roC_lt T p hp; omega]
  split at h
  · rename_i B hB
    refine ⟨B, hB, fun i v hv => ?_⟩
    have hi : i < 30 := (List.getElem?_eq_some_iff.1 hv).1
    have := List.all_eq_true.1 h i (List.mem_range.2 hi)
    split at this
    · rename_i u v1 hu hv1
      rw [hv] at hv1
      cases hv1
      rw [eqC_spec this] at hu
      exact hu
    · cases this
  · cases h
theorem c_rfill {T k : Nat} (hB : rfillB T k = true) (hk : k < 6) {Bar bk fb : Nat} {w : World} (h : HoldsR w Bar bk fb T) :
    ∃ u0 u1 u2 u3 u4, (∀ i u, ([u0, u1, u2, u3, u4] : List Value)[i]? = some u → w.cell? ⟨fb, 5 * k + i, none⟩ = some u) ∧
      Calls Tryz.prog 84 #[.pointer (some ⟨bk, 0, none⟩), .agg #[u0, u1, u2, u3, u4]] w fun en w' => en = .returned (.int .i64 0) ∧ HoldsR w' Bar bk fb (T + 2 ^ k) ∧ Below Bar w w' := by
  obtain ⟨e, c, kf, hS, h0, hbk, hfb⟩ := h
  obtain ⟨B, hB39, hget⟩ := fills_get T
  obtain ⟨b', k', g1, cs, ty, f, g2, g3⟩ := hS.ro 39 B hB39
  rw [hfb] at g1
  cases g1
  have hcell : ∀ i, i < 30 → ∃ v', w.cell? ⟨fb, i, none⟩ = some v' ∧ ∃ v, fillsL[i]? = some v ∧ RV e v v' := fun i hi => by
    have h30 : i < fillsL.length := hi
    obtain ⟨v', g4, g5⟩ := g3 i _ (hget i _ (List.getElem?_eq_getElem h30))
    exact ⟨v', by simp [World.cell?, g2, g4], _, List.getElem?_eq_getElem h30, g5⟩
  obtain ⟨u0, c0, v0, d0, r0⟩ := hcell (5 * k) (by omega)
  obtain ⟨u1, c1, v1, d1, r1⟩ := hcell (5 * k + 1) (by omega)
  obtain ⟨u2, c2, v2, d2, r2⟩ := hcell (5 * k + 2) (by omega)
  obtain ⟨u3, c3, v3, d3, r3⟩ := hcell (5 * k + 3) (by omega)
  obtain ⟨u4, c4, v4, d4, r4⟩ := hcell (5 * k + 4) (by omega)
  refine ⟨u0, u1, u2, u3, u4, fun i u hi => ?_, ?_⟩
  · match i, hi with
    | 0, hi => cases hi; exact c0
    | 1, hi => cases hi; exact c1
    | 2, hi => cases hi; exact c2
    | 3, hi => cases hi; exact c3
    | 4, hi => cases hi; exact c4
    | n + 5, hi => simp at hi
  · have hl : (fillsL.drop (5 * k)).take 5 = [v0, v1, v2, v3, v4] := by
      refine List.ext_getElem? fun i => ?_
      rw [List.getElem?_take]
      split
      · rename_i hi
        rw [List.getElem?_drop]
        match i, hi with
        | 0, _ => exact d0
        | 1, _ => exact d1
        | 2, _ => exact d2
        | 3, _ => exact d3
        | 4, _ => exact d4
        | n + 5, hi => omega
      · rename_i hi
        rw [List.getElem?_eq_none (by simp; omega)]
    have hv : RV e (fillV k) (.agg #[u0, u1, u2, u3, u4]) := by
      rw [fillV_eq k hk, hl, RV]
      exact ⟨_, ⟨_, _, r0, ⟨_, _, r1, ⟨_, _, r2, ⟨_, _, r3, ⟨_, _, r4, rfl, rfl⟩, rfl⟩, rfl⟩, rfl⟩, rfl⟩, rfl⟩
    refine (callV_ok num mixed H_ok hB hS (globs1 h0) (args' := [.pointer (some ⟨bk, 0, none⟩), .agg #[u0, u1, u2, u3, u4]]) ⟨_, _, RV.ptr hbk, ⟨_, _, hv, rfl, rfl⟩, rfl⟩).mono fun en w' ⟨⟨e2, v', hen, hv', h1, h2⟩, hb⟩ => ?_
    refine ⟨by rw [hen, RV.flat_eq rfl hv'], ⟨e2, c, kf, h1, ?_, ?_, ?_⟩, hb⟩
    · rw [h2 0 (by omega) (fun _ => rfl) (show 0 < 94 by omega)]; exact h0
    · rw [h2 1 (by omega) (fun _ => rfl) (show 1 < 94 by omega)]; exact hbk
    · rw [h2 39 (by omega) (fun _ => rfl) (show 39 < 94 by omega)]; exact hfb
theorem c_rseal {Bar bk fb : Nat} {w : World} (h : HoldsR w Bar bk fb 63) :
    Calls Tryz.prog 60 #[.pointer (some ⟨bk, 0, none⟩)] w fun en w' => en = .returned (.int .i64 0) ∧ HoldsF w' Bar bk ∧ Below Bar w w' := by
  obtain ⟨e, c, kf, hS, h0, hbk, hfb⟩ := h
  refine (callV_ok num mixed H_ok rsealB hS (globs1 h0) (args' := [.pointer (some ⟨bk, 0, none⟩)]) ⟨_, _, RV.ptr hbk, rfl, rfl⟩).mono fun en w' ⟨⟨e2, v', hen, hv, h1, h2⟩, hb⟩ => ?_
  refine ⟨by rw [hen, RV.flat_eq rfl hv], ⟨e2, c, h1, ?_, ?_⟩, hb⟩
  · rw [h2 0 (by omega) (fun _ => rfl) (show 0 < 94 by omega)]; exact h0
  · rw [h2 1 (by omega) (fun _ => rfl) (show 1 < 94 by omega)]; exact hbk

set_option maxHeartbeats 20000000 in
theorem c_ragain (L : List Nat) (hL : L.length = 6) (hlt6 : ∀ x ∈ L, x < 6) (hfill : ∀ j, j < 6 → rfillB (mask (L.take j)) (L.getD j 0) = true) (hm : mask L = 63)
    (b cap : Nat) (w : World) (hk : Known 1 kn.gl w) (hbl : b < w.heap.size) (hc : ∀ j, j < 6 → w.cell? ⟨b, j, none⟩ = some (.int .i64 (L.getD j 0)))
    (hord : Calls Tryz.prog 83 #[.slice (some ⟨b, 0, none⟩) 6 cap] w fun e w' => e = .returned (.bool true) ∧ Below w.heap.size w w') :
    Calls Tryz.prog 39 #[.slice (some ⟨b, 0, none⟩) 6 cap] w fun e w' => (∃ bk, e = .returned (.tuple #[.pointer (some ⟨bk, 0, none⟩), .int .i64 0]) ∧ ∃ Bar, w.heap.size ≤ Bar ∧ HoldsF w' Bar bk) ∧ Below w.heap.size w w' := by
  go_enter Tryz.func39, Tryz.ntmps39
  go_wp2_with fail
  refine hord.mono ?_
  rintro e w1 ⟨rfl, hb1⟩
  have hk1 := knownW hk hb1
  go_wp2_with fail
  refine (c_rnew _ hk1).mono ?_
  rintro e w2 ⟨⟨bk, rfl, hN⟩, hb2⟩
  have hbel2 : Below w.heap.size w w2 := hb1.trans (hb2.mono hb1.size)
  have hBw := hb1.size
  go_wp2_with fail
  refine (c_rfills hN).mono ?_
  rintro e w3 ⟨⟨fb, rfl, hH⟩, hb3⟩
  have hbel3 : Below w.heap.size w w3 := hbel2.trans (hb3.mono hBw)
  obtain ⟨Bar, hBar⟩ : ∃ B, w1.heap.size = B := ⟨_, rfl⟩
  rw [hBar] at hH hBw
  have hbB : b < Bar := Nat.lt_of_lt_of_le hbl hBw
  have hck : ∀ j, j < 6 → w3.cell? ⟨b, j, none⟩ = some (.int .i64 (L.getD j 0)) := fun j hj => (hbel3.cell (p := ⟨b, j, none⟩) hbl).trans (hc j hj)
  clear hc hb1 hb2 hk1 hb3 hN hk hord hBar hbel2
  go_wp2
  go_loopw [7] (fun i wr => ∃ k : Nat, k ≤ 6 ∧ i = .int .i64 k ∧ HoldsR wr Bar bk fb (mask (L.take k)) ∧ Below w.heap.size w wr ∧ ∀ j, j < 6 → wr.cell? ⟨b, j, none⟩ = some (.int .i64 (L.getD j 0))) (fun i _ => 6 - (intOf i).toNat)
  case atStart => exact ⟨0, Nat.zero_le _, rfl, hH, hbel3, hck⟩
  case round =>
    clear hH hbel3 hck
    obtain ⟨k, hk6, rfl, hH, hbel, hck⟩ := hrel
    by_cases hlt : k < 6
    · have hd : decide ((k : Int) < 6) = true := decide_eq_true (by omega)
      have hcx := hck k hlt
      have hf := hfill k hlt
      have hmk := mask_take hL hlt
      have hx6 := hlt6 (L.getD k 0) (by rw [List.getD, List.getElem?_eq_getElem (by omega)]; exact List.getElem_mem _)
      have step : ∀ w4, Below Bar wr w4 → Below w.heap.size w w4 ∧ ∀ j, j < 6 → w4.cell? ⟨b, j, none⟩ = some (.int .i64 (L.getD j 0)) := fun w4 hb4 =>
        ⟨hbel.trans (hb4.mono hBw), fun j hj => (hb4.cell (p := ⟨b, j, none⟩) hbB).trans (hck j hj)⟩
      have hstep := Lib.hid step
      have hmkh := Lib.hid hmk
      obtain ⟨x, hx⟩ : ∃ x, L.getD k 0 = x := ⟨_, rfl⟩
      rw [hx] at hcx hf hmkh hx6
      clear step hmk hck hx
      have hc := c_rfill hf hx6 hH
      clear hf hH
      have hxc : x = 0 ∨ x = 1 ∨ x = 2 ∨ x = 3 ∨ x = 4 ∨ x = 5 := by omega
      rcases hxc with rfl | rfl | rfl | rfl | rfl | rfl
      · obtain ⟨u0, u1, u2, u3, u4, hu, hcall⟩ := hc
        have hp0 : wr.cell? ⟨fb, 0, none⟩ = some u0 := hu 0 u0 rfl
        have hp1 : wr.cell? ⟨fb, 1, none⟩ = some u1 := hu 1 u1 rfl
        have hp2 : wr.cell? ⟨fb, 2, none⟩ = some u2 := hu 2 u2 rfl
        have hp3 : wr.cell? ⟨fb, 3, none⟩ = some u3 := hu 3 u3 rfl
        have hp4 : wr.cell? ⟨fb, 4, none⟩ = some u4 := hu 4 u4 rfl
        clear hu
        go_wp2_with fail
        refine hcall.mono ?_
        rintro e w4 ⟨rfl, hH4, hb4⟩
        go_wp2
        go_roundw
        case rel => exact ⟨k + 1, by omega, by go_num, by rw [hmkh.out]; exact hH4, hstep.out w4 hb4⟩
        case measure => simp [intOf]; omega
      · obtain ⟨u0, u1, u2, u3, u4, hu, hcall⟩ := hc
        have hp0 : wr.cell? ⟨fb, 5, none⟩ = some u0 := hu 0 u0 rfl
        have hp1 : wr.cell? ⟨fb, 6, none⟩ = some u1 := hu 1 u1 rfl
        have hp2 : wr.cell? ⟨fb, 7, none⟩ = some u2 := hu 2 u2 rfl
        have hp3 : wr.cell? ⟨fb, 8, none⟩ = some u3 := hu 3 u3 rfl
        have hp4 : wr.cell? ⟨fb, 9, none⟩ = some u4 := hu 4 u4 rfl
        clear hu
        go_wp2_with fail
        refine hcall.mono ?_
        rintro e w4 ⟨rfl, hH4, hb4⟩
        go_wp2
        go_roundw
        case rel => exact ⟨k + 1, by omega, by go_num, by rw [hmkh.out]; exact hH4, hstep.out w4 hb4⟩
        case measure => simp [intOf]; omega
      · obtain ⟨u0, u1, u2, u3, u4, hu, hcall⟩ := hc
        have hp0 : wr.cell? ⟨fb, 10, none⟩ = some u0 := hu 0 u0 rfl
        have hp1 : wr.cell? ⟨fb, 11, none⟩ = some u1 := hu 1 u1 rfl
        have hp2 : wr.cell? ⟨fb, 12, none⟩ = some u2 := hu 2 u2 rfl
        have hp3 : wr.cell? ⟨fb, 13, none⟩ = some u3 := hu 3 u3 rfl
        have hp4 : wr.cell? ⟨fb, 14, none⟩ = some u4 := hu 4 u4 rfl
        clear hu
        go_wp2_with fail
        refine hcall.mono ?_
        rintro e w4 ⟨rfl, hH4, hb4⟩
        go_wp2
        go_roundw
        case rel => exact ⟨k + 1, by omega, by go_num, by rw [hmkh.out]; exact hH4, hstep.out w4 hb4⟩
        case measure => simp [intOf]; omega
      · obtain ⟨u0, u1, u2, u3, u4, hu, hcall⟩ := hc
        have hp0 : wr.cell? ⟨fb, 15, none⟩ = some u0 := hu 0 u0 rfl
        have hp1 : wr.cell? ⟨fb, 16, none⟩ = some u1 := hu 1 u1 rfl
        have hp2 : wr.cell? ⟨fb, 17, none⟩ = some u2 := hu 2 u2 rfl
        have hp3 : wr.cell? ⟨fb, 18, none⟩ = some u3 := hu 3 u3 rfl
        have hp4 : wr.cell? ⟨fb, 19, none⟩ = some u4 := hu 4 u4 rfl
        clear hu
        go_wp2_with fail
        refine hcall.mono ?_
        rintro e w4 ⟨rfl, hH4, hb4⟩
        go_wp2
        go_roundw
        case rel => exact ⟨k + 1, by omega, by go_num, by rw [hmkh.out]; exact hH4, hstep.out w4 hb4⟩
        case measure => simp [intOf]; omega
      · obtain ⟨u0, u1, u2, u3, u4, hu, hcall⟩ := hc
        have hp0 : wr.cell? ⟨fb, 20, none⟩ = some u0 := hu 0 u0 rfl
        have hp1 : wr.cell? ⟨fb, 21, none⟩ = some u1 := hu 1 u1 rfl
        have hp2 : wr.cell? ⟨fb, 22, none⟩ = some u2 := hu 2 u2 rfl
        have hp3 : wr.cell? ⟨fb, 23, none⟩ = some u3 := hu 3 u3 rfl
        have hp4 : wr.cell? ⟨fb, 24, none⟩ = some u4 := hu 4 u4 rfl
        clear hu
        go_wp2_with fail
        refine hcall.mono ?_
        rintro e w4 ⟨rfl, hH4, hb4⟩
        go_wp2
        go_roundw
        case rel => exact ⟨k + 1, by omega, by go_num, by rw [hmkh.out]; exact hH4, hstep.out w4 hb4⟩
        case measure => simp [intOf]; omega
      · obtain ⟨u0, u1, u2, u3, u4, hu, hcall⟩ := hc
        have hp0 : wr.cell? ⟨fb, 25, none⟩ = some u0 := hu 0 u0 rfl
        have hp1 : wr.cell? ⟨fb, 26, none⟩ = some u1 := hu 1 u1 rfl
        have hp2 : wr.cell? ⟨fb, 27, none⟩ = some u2 := hu 2 u2 rfl
        have hp3 : wr.cell? ⟨fb, 28, none⟩ = some u3 := hu 3 u3 rfl
        have hp4 : wr.cell? ⟨fb, 29, none⟩ = some u4 := hu 4 u4 rfl
        clear hu
        go_wp2_with fail
        refine hcall.mono ?_
        rintro e w4 ⟨rfl, hH4, hb4⟩
        go_wp2
        go_roundw
        case rel => exact ⟨k + 1, by omega, by go_num, by rw [hmkh.out]; exact hH4, hstep.out w4 hb4⟩
        case measure => simp [intOf]; omega
    · have hd : decide ((k : Int) < 6) = false := decide_eq_false (by omega)
      have : k = 6 := by omega
      subst this
      rw [List.take_of_length_le (by omega), hm] at hH
      clear hck
      go_wp2_with fail
      refine (c_rseal hH).mono ?_
      rintro e w5 ⟨rfl, hH5, hb5⟩
      go_wp2
      go_ret2
      exact ⟨⟨bk, rfl, Bar, hBw, hH5⟩, hbel.trans (hb5.mono hBw)⟩
end Go.Proofs.YtecmlefiajhajaaGreatDoor.wr
