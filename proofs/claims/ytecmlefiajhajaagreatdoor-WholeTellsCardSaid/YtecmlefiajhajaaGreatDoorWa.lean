/- whole.Again at an order of the six suits: a book of all six, sealed. -/
import Derived.Test.YtecmlefiajhajaaGreatDoorWt
import Derived.WalkKit
import Derived.ProofKit
import Derived.Below
import Derived.RegionTactic
import Derived.BigRegion
import Derived.OwnWalk
import Derived.Laws.EntriesVeiled
import Derived.Deep.CutBlock
import Derived.Lib.Hide
import Derived.Test.YtecmlefiajhajaaGreatDoorSg
namespace Go.Proofs.YtecmlefiajhajaaGreatDoor.wh
open Go.Sim Go.RowKit
set_option linter.unusedVariables false
set_option maxRecDepth 100000

theorem num : Sim.NumOK Tryz.prog := Sim.numOK_of (by kernel_rfl)
theorem mixed : Tryz.prog.follows .mixedOrders = true := by kernel_rfl
/-- a book that holds the suits of a set -/
def HoldsW (w : World) (Bar bk T : Nat) (shut : Bool) : Prop := ∃ e k, RS 1 Bar e (stW T shut) w ∧ e 0 = some (0, 0) ∧ e 1 = some (bk, k)
theorem globs1 {e : Env} (h : e 0 = some (0, 0)) : Globs 1 e := fun g hg => by
  have : g = 0 := by omega
  rw [this]; exact h
theorem HoldsW.kept {w w' : World} {Bar bk T : Nat} {shut : Bool} (h : HoldsW w Bar bk T shut) (hb : Below w.heap.size w w') : HoldsW w' Bar bk T shut := by
  obtain ⟨e, k, h1, h2, h3⟩ := h
  exact ⟨e, k, (Cl.keep ⟨h1, Below.refl _ _⟩ h1 hb).1, h2, h3⟩
theorem knownW {w w' : World} (h : Sim.Known 1 kn.gl w) (hb : Below w.heap.size w w') : Sim.Known 1 kn.gl w' :=
  ⟨Nat.le_trans h.1 hb.size, fun p hp => let ⟨a, b, c, d, f⟩ := h.2 p hp; ⟨a, b, c, d, fun i v hv => (hb.cell (p := ⟨p.1, i, none⟩) (Nat.lt_of_lt_of_le a h.1)).trans (f i v hv)⟩⟩
theorem sgB : renOK 1 (fun n => n) (SG 1 kn.gl) 1 [] [(0, gKB)] = true := by kernel_rfl
theorem start (w : World) (h : Known 1 kn.gl w) : ∃ e, RS 1 w.heap.size e (mkSt 1 [] [(0, gKB)]) w ∧ e 0 = some (0, 0) := by
  obtain ⟨e2, h1, h2⟩ := (rs_known h).rename sgB
  exact ⟨e2, h1, by rw [h2 0 (by decide)]; rfl⟩
theorem c_new (w : World) (hk : Known 1 kn.gl w) : Calls Tryz.prog 24 #[] w fun en w' => (∃ bk, en = .returned (.pointer (some ⟨bk, 0, none⟩)) ∧ HoldsW w' w.heap.size bk 0 false) ∧ Below w.heap.size w w' := by
  obtain ⟨e, hS, h0⟩ := start w hk
  refine (callV_ok num mixed H_ok newB hS (globs1 h0) (args' := []) rfl).mono fun en w' ⟨⟨e2, v', hen, hv, h1, h2⟩, hb⟩ => ⟨?_, hb⟩
  rw [RV] at hv
  obtain ⟨bk, k, g1, g2, g3⟩ := hv
  refine ⟨bk, by rw [hen, g3], e2, k, h1, ?_, g1⟩
  rw [h2 0 (by omega) (fun _ => rfl) (by show 0 < 1; omega)]
  exact h0
theorem c_fill {T k : Nat} (hB : fillB T k = true) {Bar bk : Nat} {w : World} (h : HoldsW w Bar bk T false) :
    Calls Tryz.prog 78 #[.pointer (some ⟨bk, 0, none⟩), pack k] w fun en w' => en = .returned (.int .i64 0) ∧ HoldsW w' Bar bk (T + 2 ^ k) false ∧ Below Bar w w' := by
  obtain ⟨e, c, hS, h0, hbk⟩ := h
  have hf : flat (pack k) = true := by
    have h6 : ((List.range 6).all fun k => flat (pack k)) = true := by kernel_rfl
    by_cases hk : k < 6
    · exact List.all_eq_true.1 h6 k (List.mem_range.2 hk)
    · exfalso
      unfold fillB at hB
      have : pack k = undef := by
        unfold pack
        rw [List.getElem?_eq_none (by simp; omega)]
        rfl
      rw [this] at hB
      simp [callV] at hB
      have hz : callH Tryz.prog H 1 60 1 78 [.pointer (some ⟨1, 0, none⟩), undef] (stW T false) = none := by kernel_rfl
      rw [hz] at hB
      simp at hB
  refine (callV_ok num mixed H_ok hB hS (globs1 h0) (args' := [.pointer (some ⟨bk, 0, none⟩), pack k]) ⟨_, _, RV.ptr hbk, RVL.of_flat (by simp [flatL, hf]), rfl⟩).mono fun en w' ⟨⟨e2, v', hen, hv, h1, h2⟩, hb⟩ => ?_
  refine ⟨by rw [hen, RV.flat_eq rfl hv], ⟨e2, c, h1, ?_, ?_⟩, hb⟩
  · rw [h2 0 (by omega) (fun _ => rfl) (show 0 < 38 by omega)]; exact h0
  · rw [h2 1 (by omega) (fun _ => rfl) (show 1 < 38 by omega)]; exact hbk
theorem c_seal {Bar bk : Nat} {w : World} (h : HoldsW w Bar bk 63 false) :
    Calls Tryz.prog 44 #[.pointer (some ⟨bk, 0, none⟩)] w fun en w' => en = .returned (.int .i64 0) ∧ HoldsW w' Bar bk 63 true ∧ Below Bar w w' := by
  obtain ⟨e, c, hS, h0, hbk⟩ := h
  refine (callV_ok num mixed H_ok sealB hS (globs1 h0) (args' := [.pointer (some ⟨bk, 0, none⟩)]) ⟨_, _, RV.ptr hbk, rfl, rfl⟩).mono fun en w' ⟨⟨e2, v', hen, hv, h1, h2⟩, hb⟩ => ?_
  refine ⟨by rw [hen, RV.flat_eq rfl hv], ⟨e2, c, h1, ?_, ?_⟩, hb⟩
  · rw [h2 0 (by omega) (fun _ => rfl) (show 0 < 38 by omega)]; exact h0
  · rw [h2 1 (by omega) (fun _ => rfl) (show 1 < 38 by omega)]; exact hbk

/-- the set of the suits of a list -/
def mask (l : List Nat) : Nat := l.foldl (fun t k => t + 2 ^ k) 0
theorem mask_take {L : List Nat} {n k : Nat} (hL : L.length = n) (hk : k < n) : mask (L.take (k + 1)) = mask (L.take k) + 2 ^ L.getD k 0 := by
  unfold mask
  rw [List.take_add_one, List.getElem?_eq_getElem (by omega), List.foldl_append]
  simp [List.getD, List.getElem?_eq_getElem (show k < L.length by omega)]

set_option maxHeartbeats 4000000 in
theorem c_index (L : List Nat) (x b off cap : Nat) (w : World) (hx : x ∈ L) (hL : L.length ≤ 100) (hc : ∀ j, j < L.length → w.cell? ⟨b, off + j, none⟩ = some (.int .i64 (L.getD j 0))) (hsm : ∀ y ∈ L, y < 100) :
    Calls Tryz.prog 151 #[.slice (some ⟨b, off, none⟩) L.length cap, .int .i64 x] w fun e w' => (∃ k : Nat, e = .returned (.int .i64 k)) ∧ w' = w := by
  go_enter Tryz.func151, Tryz.ntmps151
  go_wp2
  go_loop [8] (fun i => ∃ k : Nat, k ≤ L.length ∧ i = .int .i64 k ∧ ∀ j, j < k → L.getD j 0 ≠ x) (fun i => L.length - (intOf i).toNat)
  case atStart => exact ⟨0, Nat.zero_le _, rfl, fun j hj => by omega⟩
  case round =>
    obtain ⟨k, hk, rfl, hno⟩ := hrel
    by_cases hlt : k < L.length
    · have hcx := hc k hlt
      obtain ⟨y, hy⟩ : ∃ y, L.getD k 0 = y := ⟨_, rfl⟩
      rw [hy] at hcx
      clear hc
      by_cases hxy : x = y
      · subst hxy
        go_wp2
        go_ret
        exact ⟨⟨k, rfl⟩, rfl⟩
      · have hd : decide ((x : Int) = (y : Int)) = false := decide_eq_false (by omega)
        have hd2 : ((x : Int) == (y : Int)) = false := by simp; omega
        go_wp2
        go_round
        case rel => exact ⟨k + 1, by omega, by go_num, fun j hj => by
          by_cases hjk : j = k
          · rw [hjk, hy]; exact fun h => hxy h.symm
          · exact hno j (by omega)⟩
        case measure => simp [intOf]; omega
    · exfalso
      obtain ⟨j, hj, hje⟩ := List.mem_iff_getElem.1 hx
      exact hno j (by omega) (by simp [List.getD, hj, hje])
set_option maxHeartbeats 4000000 in
theorem c_contains (L : List Nat) (x b off cap : Nat) (w : World) (hx : x ∈ L) (hL : L.length ≤ 100) (hc : ∀ j, j < L.length → w.cell? ⟨b, off + j, none⟩ = some (.int .i64 (L.getD j 0))) (hsm : ∀ y ∈ L, y < 100) :
    Calls Tryz.prog 77 #[.slice (some ⟨b, off, none⟩) L.length cap, .int .i64 x] w fun e w' => e = .returned (.bool true) ∧ w' = w := by
  have hi := c_index L x b off cap w hx hL hc hsm
  clear hc
  go_enter Tryz.func77, Tryz.ntmps77
  go_wp2_with fail
  refine hi.mono ?_
  rintro e w' ⟨⟨k, rfl⟩, rfl⟩
  have hk : decide ((0 : Int) ≤ (k : Int)) = true := decide_eq_true (by omega)
  go_wp2
  go_ret
  exact ⟨rfl, rfl⟩

theorem cell_of {w : World} {pb : Nat} {cs : Array Value} {t : TypeId} (h : w.heap[pb]? = some (.cells cs t (0, 0))) (i : Nat) {v : Value} (hv : cs[i]? = some v) : w.cell? ⟨pb, i, none⟩ = some v := by simp [World.cell?, h, hv]

def packsKB : KB := { cells := idx 0 [.string ⟨#[97, 105, 114]⟩, .func (.func 127) #[] #[], .func (.func 128) #[] #[], .func (.func 129) #[] #[], .func (.func 130) #[] #[], .string ⟨#[101, 97, 114, 116, 104]⟩, .func (.func 131) #[] #[], .func (.func 132) #[] #[], .func (.func 133) #[] #[], .func (.func 134) #[] #[], .string ⟨#[102, 105, 114, 101]⟩, .func (.func 135) #[] #[], .func (.func 136) #[] #[], .func (.func 137) #[] #[], .func (.func 138) #[] #[], .string ⟨#[119, 97, 116, 101, 114]⟩, .func (.func 139) #[] #[], .func (.func 140) #[] #[], .func (.func 141) #[] #[], .func (.func 142) #[] #[], .string ⟨#[118, 111, 105, 100]⟩, .func (.func 143) #[] #[], .func (.func 144) #[] #[], .func (.func 145) #[] #[], .func (.func 146) #[] #[], .string ⟨#[103, 111, 108, 100]⟩, .func (.func 147) #[] #[], .func (.func 148) #[] #[], .func (.func 149) #[] #[], .func (.func 150) #[] #[]], size := 30, elem := 0, es := 0 }
theorem packs_size : packsKB.cells.length = 30 := rfl
theorem flat_packs : ((List.range 30).all fun i => match (blOf [(1, packsKB)]).get 1 with | some B => (match B.get i, ([.string ⟨#[97, 105, 114]⟩, .func (.func 127) #[] #[], .func (.func 128) #[] #[], .func (.func 129) #[] #[], .func (.func 130) #[] #[], .string ⟨#[101, 97, 114, 116, 104]⟩, .func (.func 131) #[] #[], .func (.func 132) #[] #[], .func (.func 133) #[] #[], .func (.func 134) #[] #[], .string ⟨#[102, 105, 114, 101]⟩, .func (.func 135) #[] #[], .func (.func 136) #[] #[], .func (.func 137) #[] #[], .func (.func 138) #[] #[], .string ⟨#[119, 97, 116, 101, 114]⟩, .func (.func 139) #[] #[], .func (.func 140) #[] #[], .func (.func 141) #[] #[], .func (.func 142) #[] #[], .string ⟨#[118, 111, 105, 100]⟩, .func (.func 143) #[] #[], .func (.func 144) #[] #[], .func (.func 145) #[] #[], .func (.func 146) #[] #[], .string ⟨#[103, 111, 108, 100]⟩, .func (.func 147) #[] #[], .func (.func 148) #[] #[], .func (.func 149) #[] #[], .func (.func 150) #[] #[]] : List Value)[i]? with | some u, some v => eqC u v && flat u | _, _ => false) | none => false) = true := by kernel_rfl

set_option maxHeartbeats 20000000 in
theorem c_again (L : List Nat) (hL : L.length = 6) (hset : ∀ i, i < 6 → i ∈ L) (hlt6 : ∀ x ∈ L, x < 6) (hfill : ∀ j, j < 6 → fillB (mask (L.take j)) (L.getD j 0) = true) (hm : mask L = 63)
    (b cap : Nat) (hcap : 6 ≤ cap) (w : World) (hk : Known 1 kn.gl w) (hbl : b < w.heap.size) (hc : ∀ j, j < 6 → w.cell? ⟨b, j, none⟩ = some (.int .i64 (L.getD j 0))) :
    Calls Tryz.prog 29 #[.slice (some ⟨b, 0, none⟩) 6 cap] w fun e w' => (∃ bk, e = .returned (.tuple #[.pointer (some ⟨bk, 0, none⟩), .int .i64 0]) ∧ ∃ Bar, w.heap.size ≤ Bar ∧ HoldsW w' Bar bk 63 true) ∧ Below w.heap.size w w' := by
  go_enter Tryz.func29, Tryz.ntmps29
  go_upto_region 1 with (fail)
  rename_i K0 hK0
  have hR0 := rs_names (fun i => if i = 0 then some (b, cap) else none) 1 w (fun i hi => ⟨(b, cap), if_pos (by omega), hbl⟩) (fun i hi => if_neg (by omega))
  refine Sim.seg_run (fuel := 60) num mixed (G := 0) noHook_ok 45 [(0, .slice (some ⟨0, 0, none⟩) 6 big)] [(0, .slice (some ⟨0, 0, none⟩) 6 big), (4, .pointer (some ⟨1, 0, none⟩))] (r := fun _ n => 2 * n) (next := 2) (hp := []) (ro := [(1, packsKB)]) (by kernel_rfl) rfl (fun p hp => ?_) hR0 (fun g hg => absurd hg (by omega)) ?_
  · obtain rfl := List.mem_singleton.1 hp
    exact ⟨_, rfl, b, cap, rfl, rfl, rfl, fun _ => hcap⟩
  rintro ⟨tm, df⟩ w1 e2 hsz hd hf hR hsame hb1
  simp only at hsz hd
  subst hd
  obtain ⟨v0, hv0, hr0⟩ := hf (0, _) (List.mem_cons_self ..)
  obtain ⟨v4, hv4, hr4⟩ := hf (4, _) (List.mem_cons_of_mem _ (List.mem_cons_self ..))
  have he0 : e2 0 = some (b, cap) := (hsame 0 (by omega) (fun _ => rfl) (by show 0 < 1; omega)).trans rfl
  obtain ⟨b', k', q1, q2, rfl, q3⟩ := hr0
  have q1 : e2 0 = some (b', k') := q1
  rw [he0] at q1
  cases q1
  obtain ⟨pb, kp, q4, q5, rfl⟩ := hr4
  have q4 : e2 1 = some (pb, kp) := q4
  have hpc : ∀ i v, ([.string ⟨#[97, 105, 114]⟩, .func (.func 127) #[] #[], .func (.func 128) #[] #[], .func (.func 129) #[] #[], .func (.func 130) #[] #[], .string ⟨#[101, 97, 114, 116, 104]⟩, .func (.func 131) #[] #[], .func (.func 132) #[] #[], .func (.func 133) #[] #[], .func (.func 134) #[] #[], .string ⟨#[102, 105, 114, 101]⟩, .func (.func 135) #[] #[], .func (.func 136) #[] #[], .func (.func 137) #[] #[], .func (.func 138) #[] #[], .string ⟨#[119, 97, 116, 101, 114]⟩, .func (.func 139) #[] #[], .func (.func 140) #[] #[], .func (.func 141) #[] #[], .func (.func 142) #[] #[], .string ⟨#[118, 111, 105, 100]⟩, .func (.func 143) #[] #[], .func (.func 144) #[] #[], .func (.func 145) #[] #[], .func (.func 146) #[] #[], .string ⟨#[103, 111, 108, 100]⟩, .func (.func 147) #[] #[], .func (.func 148) #[] #[], .func (.func 149) #[] #[], .func (.func 150) #[] #[]] : List Value)[i]? = some v → w1.cell? ⟨pb, i, none⟩ = some v := fun i v hv => by
    have hi : i < 30 := (List.getElem?_eq_some_iff.1 hv).1
    have h := List.all_eq_true.1 flat_packs i (List.mem_range.2 hi)
    split at h
    · rename_i B hB
      split at h
      · rename_i u v1 hu hv1
        rw [Bool.and_eq_true] at h
        have hv1 : ([.string ⟨#[97, 105, 114]⟩, .func (.func 127) #[] #[], .func (.func 128) #[] #[], .func (.func 129) #[] #[], .func (.func 130) #[] #[], .string ⟨#[101, 97, 114, 116, 104]⟩, .func (.func 131) #[] #[], .func (.func 132) #[] #[], .func (.func 133) #[] #[], .func (.func 134) #[] #[], .string ⟨#[102, 105, 114, 101]⟩, .func (.func 135) #[] #[], .func (.func 136) #[] #[], .func (.func 137) #[] #[], .func (.func 138) #[] #[], .string ⟨#[119, 97, 116, 101, 114]⟩, .func (.func 139) #[] #[], .func (.func 140) #[] #[], .func (.func 141) #[] #[], .func (.func 142) #[] #[], .string ⟨#[118, 111, 105, 100]⟩, .func (.func 143) #[] #[], .func (.func 144) #[] #[], .func (.func 145) #[] #[], .func (.func 146) #[] #[], .string ⟨#[103, 111, 108, 100]⟩, .func (.func 147) #[] #[], .func (.func 148) #[] #[], .func (.func 149) #[] #[], .func (.func 150) #[] #[]] : List Value)[i]? = some v1 := hv1
        rw [hv] at hv1
        cases hv1
        rw [eqC_spec h.1] at hu h
        exact hR.roCell hB q4 hu h.2
      · cases h
    · cases h
  have hpl : pb < w1.heap.size := hR.hi 1 _ _ q4
  obtain ⟨u, hu⟩ : ∃ u : Nat → Value, ∀ i, tm.getD i undef = u i := ⟨_, fun _ => rfl⟩
  have hlit : tm = #[u 0, u 1, u 2, u 3, u 4, u 5, u 6, u 7, u 8, u 9, u 10, u 11, u 12, u 13, u 14, u 15, u 16, u 17, u 18, u 19, u 20, u 21, u 22, u 23, u 24, u 25, u 26, u 27, u 28, u 29, u 30, u 31, u 32, u 33, u 34, u 35, u 36, u 37, u 38, u 39, u 40, u 41, u 42, u 43, u 44] := by
    refine (frame_lit hsz).trans ?_
    simp only [hu]
    rfl
  have hv0 : u 0 = .slice (some ⟨b, 0, none⟩) 6 cap := by rw [← hu, getD_of hv0]; simp
  have hv4 : u 4 = .pointer (some ⟨pb, 0, none⟩) := by rw [← hu, getD_of hv4]
  rw [hv0, hv4] at hlit
  generalize u 1 = u1 at hlit
  generalize u 2 = u2 at hlit
  generalize u 3 = u3 at hlit
  generalize u 5 = u5 at hlit
  generalize u 6 = u6 at hlit
  generalize u 7 = u7 at hlit
  generalize u 8 = u8 at hlit
  generalize u 9 = u9 at hlit
  generalize u 10 = u10 at hlit
  generalize u 11 = u11 at hlit
  generalize u 12 = u12 at hlit
  generalize u 13 = u13 at hlit
  generalize u 14 = u14 at hlit
  generalize u 15 = u15 at hlit
  generalize u 16 = u16 at hlit
  generalize u 17 = u17 at hlit
  generalize u 18 = u18 at hlit
  generalize u 19 = u19 at hlit
  generalize u 20 = u20 at hlit
  generalize u 21 = u21 at hlit
  generalize u 22 = u22 at hlit
  generalize u 23 = u23 at hlit
  generalize u 24 = u24 at hlit
  generalize u 25 = u25 at hlit
  generalize u 26 = u26 at hlit
  generalize u 27 = u27 at hlit
  generalize u 28 = u28 at hlit
  generalize u 29 = u29 at hlit
  generalize u 30 = u30 at hlit
  generalize u 31 = u31 at hlit
  generalize u 32 = u32 at hlit
  generalize u 33 = u33 at hlit
  generalize u 34 = u34 at hlit
  generalize u 35 = u35 at hlit
  generalize u 36 = u36 at hlit
  generalize u 37 = u37 at hlit
  generalize u 38 = u38 at hlit
  generalize u 39 = u39 at hlit
  generalize u 40 = u40 at hlit
  generalize u 41 = u41 at hlit
  generalize u 42 = u42 at hlit
  generalize u 43 = u43 at hlit
  generalize u 44 = u44 at hlit
  have hck : ∀ j, j < 6 → w1.cell? ⟨b, j, none⟩ = some (.int .i64 (L.getD j 0)) := fun j hj => (hb1.cell (p := ⟨b, j, none⟩) hbl).trans (hc j hj)
  have hk1 := knownW hk hb1
  clear hc hv0 hv4 hR hf hsame hR0 hk
  clear hu
  subst hlit
  refine hK0 _ _ ?_
  clear hK0
  go_wp2
  go_loop [15] (fun i => ∃ k : Nat, k ≤ 6 ∧ i = .int .i64 k) (fun i => 6 - (intOf i).toNat)
  case atStart => exact ⟨0, Nat.zero_le _, rfl⟩
  case round =>
    obtain ⟨k, hk6, rfl⟩ := hrel
    by_cases hlt : k < 6
    · have hct := c_contains L k b 0 cap w1 (hset k hlt) (by omega) (fun j hj => by rw [Nat.zero_add]; exact hck j (by omega)) (fun y hy => by have := hlt6 y hy; omega)
      rw [hL] at hct
      have hd : decide ((k : Int) < 6) = true := decide_eq_true (by omega)
      clear hck
      go_wp2_with fail
      refine hct.mono ?_
      rintro e w' ⟨rfl, hw'⟩
      have hw' := hw'.symm
      subst hw'
      go_wp2
      go_round
      case rel => exact ⟨k + 1, by omega, by go_num⟩
      case measure => simp [intOf]; omega
    · have hd : decide ((k : Int) < 6) = false := decide_eq_false (by omega)
      go_wp2_with fail
      refine (c_new _ hk1).mono ?_
      rintro e w2 ⟨⟨bk, rfl, hH⟩, hb2⟩
      have hbel2 : Below w.heap.size w w2 := hb1.trans (hb2.mono hb1.size)
      have hpc2 : ∀ i v, ([.string ⟨#[97, 105, 114]⟩, .func (.func 127) #[] #[], .func (.func 128) #[] #[], .func (.func 129) #[] #[], .func (.func 130) #[] #[], .string ⟨#[101, 97, 114, 116, 104]⟩, .func (.func 131) #[] #[], .func (.func 132) #[] #[], .func (.func 133) #[] #[], .func (.func 134) #[] #[], .string ⟨#[102, 105, 114, 101]⟩, .func (.func 135) #[] #[], .func (.func 136) #[] #[], .func (.func 137) #[] #[], .func (.func 138) #[] #[], .string ⟨#[119, 97, 116, 101, 114]⟩, .func (.func 139) #[] #[], .func (.func 140) #[] #[], .func (.func 141) #[] #[], .func (.func 142) #[] #[], .string ⟨#[118, 111, 105, 100]⟩, .func (.func 143) #[] #[], .func (.func 144) #[] #[], .func (.func 145) #[] #[], .func (.func 146) #[] #[], .string ⟨#[103, 111, 108, 100]⟩, .func (.func 147) #[] #[], .func (.func 148) #[] #[], .func (.func 149) #[] #[], .func (.func 150) #[] #[]] : List Value)[i]? = some v → w2.cell? ⟨pb, i, none⟩ = some v := fun i v hv => (hb2.cell (p := ⟨pb, i, none⟩) hpl).trans (hpc i v hv)
      have hck2 : ∀ j, j < 6 → w2.cell? ⟨b, j, none⟩ = some (.int .i64 (L.getD j 0)) := fun j hj => (hb2.cell (p := ⟨b, j, none⟩) (Nat.lt_of_lt_of_le hbl hb1.size)).trans (hck j hj)
      have hBw := hb1.size
      obtain ⟨Bar, hBar⟩ : ∃ B, w1.heap.size = B := ⟨_, rfl⟩
      rw [hBar] at hH hpl hBw
      have hbB : b < Bar := Nat.lt_of_lt_of_le hbl hBw
      clear hpc hck hb1 hb2 hk1 hBar
      go_wp2
      go_loopw [26] (fun i wr => ∃ k : Nat, k ≤ 6 ∧ i = .int .i64 k ∧ HoldsW wr Bar bk (mask (L.take k)) false ∧ Below w.heap.size w wr ∧ (∀ i v, ([.string ⟨#[97, 105, 114]⟩, .func (.func 127) #[] #[], .func (.func 128) #[] #[], .func (.func 129) #[] #[], .func (.func 130) #[] #[], .string ⟨#[101, 97, 114, 116, 104]⟩, .func (.func 131) #[] #[], .func (.func 132) #[] #[], .func (.func 133) #[] #[], .func (.func 134) #[] #[], .string ⟨#[102, 105, 114, 101]⟩, .func (.func 135) #[] #[], .func (.func 136) #[] #[], .func (.func 137) #[] #[], .func (.func 138) #[] #[], .string ⟨#[119, 97, 116, 101, 114]⟩, .func (.func 139) #[] #[], .func (.func 140) #[] #[], .func (.func 141) #[] #[], .func (.func 142) #[] #[], .string ⟨#[118, 111, 105, 100]⟩, .func (.func 143) #[] #[], .func (.func 144) #[] #[], .func (.func 145) #[] #[], .func (.func 146) #[] #[], .string ⟨#[103, 111, 108, 100]⟩, .func (.func 147) #[] #[], .func (.func 148) #[] #[], .func (.func 149) #[] #[], .func (.func 150) #[] #[]] : List Value)[i]? = some v → wr.cell? ⟨pb, i, none⟩ = some v) ∧ ∀ j, j < 6 → wr.cell? ⟨b, j, none⟩ = some (.int .i64 (L.getD j 0))) (fun i _ => 6 - (intOf i).toNat)
      case atStart => exact ⟨0, Nat.zero_le _, rfl, hH, hbel2, hpc2, hck2⟩
      case round =>
        clear hH hbel2 hpc2 hck2
        obtain ⟨k, hk6, rfl, hH, hbel, hpc, hck⟩ := hrel
        by_cases hlt : k < 6
        · have hd : decide ((k : Int) < 6) = true := decide_eq_true (by omega)
          have hcx := hck k hlt
          have hf := hfill k hlt
          have hmk := mask_take hL hlt
          have hx6 := hlt6 (L.getD k 0) (by rw [List.getD, List.getElem?_eq_getElem (by omega)]; exact List.getElem_mem _)
          have step : ∀ w4, Below Bar wr w4 → Below w.heap.size w w4 ∧ (∀ i v, ([.string ⟨#[97, 105, 114]⟩, .func (.func 127) #[] #[], .func (.func 128) #[] #[], .func (.func 129) #[] #[], .func (.func 130) #[] #[], .string ⟨#[101, 97, 114, 116, 104]⟩, .func (.func 131) #[] #[], .func (.func 132) #[] #[], .func (.func 133) #[] #[], .func (.func 134) #[] #[], .string ⟨#[102, 105, 114, 101]⟩, .func (.func 135) #[] #[], .func (.func 136) #[] #[], .func (.func 137) #[] #[], .func (.func 138) #[] #[], .string ⟨#[119, 97, 116, 101, 114]⟩, .func (.func 139) #[] #[], .func (.func 140) #[] #[], .func (.func 141) #[] #[], .func (.func 142) #[] #[], .string ⟨#[118, 111, 105, 100]⟩, .func (.func 143) #[] #[], .func (.func 144) #[] #[], .func (.func 145) #[] #[], .func (.func 146) #[] #[], .string ⟨#[103, 111, 108, 100]⟩, .func (.func 147) #[] #[], .func (.func 148) #[] #[], .func (.func 149) #[] #[], .func (.func 150) #[] #[]] : List Value)[i]? = some v → w4.cell? ⟨pb, i, none⟩ = some v) ∧ ∀ j, j < 6 → w4.cell? ⟨b, j, none⟩ = some (.int .i64 (L.getD j 0)) := fun w4 hb4 =>
            ⟨hbel.trans (hb4.mono hBw), fun i v hv => (hb4.cell (p := ⟨pb, i, none⟩) hpl).trans (hpc i v hv), fun j hj => (hb4.cell (p := ⟨b, j, none⟩) hbB).trans (hck j hj)⟩
          have hstep := Lib.hid step
          have hmkh := Lib.hid hmk
          obtain ⟨x, hx⟩ : ∃ x, L.getD k 0 = x := ⟨_, rfl⟩
          rw [hx] at hcx hf hmkh hx6
          have hcs : ∀ i, i < 5 → ∃ v, ([.string ⟨#[97, 105, 114]⟩, .func (.func 127) #[] #[], .func (.func 128) #[] #[], .func (.func 129) #[] #[], .func (.func 130) #[] #[], .string ⟨#[101, 97, 114, 116, 104]⟩, .func (.func 131) #[] #[], .func (.func 132) #[] #[], .func (.func 133) #[] #[], .func (.func 134) #[] #[], .string ⟨#[102, 105, 114, 101]⟩, .func (.func 135) #[] #[], .func (.func 136) #[] #[], .func (.func 137) #[] #[], .func (.func 138) #[] #[], .string ⟨#[119, 97, 116, 101, 114]⟩, .func (.func 139) #[] #[], .func (.func 140) #[] #[], .func (.func 141) #[] #[], .func (.func 142) #[] #[], .string ⟨#[118, 111, 105, 100]⟩, .func (.func 143) #[] #[], .func (.func 144) #[] #[], .func (.func 145) #[] #[], .func (.func 146) #[] #[], .string ⟨#[103, 111, 108, 100]⟩, .func (.func 147) #[] #[], .func (.func 148) #[] #[], .func (.func 149) #[] #[], .func (.func 150) #[] #[]] : List Value)[5 * x + i]? = some v ∧ wr.cell? ⟨pb, 5 * x + i, none⟩ = some v := fun i hi => by
            have h30 : 5 * x + i < ([.string ⟨#[97, 105, 114]⟩, .func (.func 127) #[] #[], .func (.func 128) #[] #[], .func (.func 129) #[] #[], .func (.func 130) #[] #[], .string ⟨#[101, 97, 114, 116, 104]⟩, .func (.func 131) #[] #[], .func (.func 132) #[] #[], .func (.func 133) #[] #[], .func (.func 134) #[] #[], .string ⟨#[102, 105, 114, 101]⟩, .func (.func 135) #[] #[], .func (.func 136) #[] #[], .func (.func 137) #[] #[], .func (.func 138) #[] #[], .string ⟨#[119, 97, 116, 101, 114]⟩, .func (.func 139) #[] #[], .func (.func 140) #[] #[], .func (.func 141) #[] #[], .func (.func 142) #[] #[], .string ⟨#[118, 111, 105, 100]⟩, .func (.func 143) #[] #[], .func (.func 144) #[] #[], .func (.func 145) #[] #[], .func (.func 146) #[] #[], .string ⟨#[103, 111, 108, 100]⟩, .func (.func 147) #[] #[], .func (.func 148) #[] #[], .func (.func 149) #[] #[], .func (.func 150) #[] #[]] : List Value).length := by show 5 * x + i < 30; omega
            exact ⟨_, List.getElem?_eq_getElem h30, hpc _ _ (List.getElem?_eq_getElem h30)⟩
          clear step hmk hck hpc hx
          have hc := c_fill hf hH
          clear hf hH
          have hxc : x = 0 ∨ x = 1 ∨ x = 2 ∨ x = 3 ∨ x = 4 ∨ x = 5 := by omega
          rcases hxc with rfl | rfl | rfl | rfl | rfl | rfl
          · have hp0 : wr.cell? ⟨pb, 0, none⟩ = some (.string ⟨#[97, 105, 114]⟩) := by obtain ⟨v, h1, h2⟩ := hcs 0 (by omega); cases h1; exact h2
            have hp1 : wr.cell? ⟨pb, 1, none⟩ = some (.func (.func 127) #[] #[]) := by obtain ⟨v, h1, h2⟩ := hcs 1 (by omega); cases h1; exact h2
            have hp2 : wr.cell? ⟨pb, 2, none⟩ = some (.func (.func 128) #[] #[]) := by obtain ⟨v, h1, h2⟩ := hcs 2 (by omega); cases h1; exact h2
            have hp3 : wr.cell? ⟨pb, 3, none⟩ = some (.func (.func 129) #[] #[]) := by obtain ⟨v, h1, h2⟩ := hcs 3 (by omega); cases h1; exact h2
            have hp4 : wr.cell? ⟨pb, 4, none⟩ = some (.func (.func 130) #[] #[]) := by obtain ⟨v, h1, h2⟩ := hcs 4 (by omega); cases h1; exact h2
            rw [show pack 0 = .agg #[.string ⟨#[97, 105, 114]⟩, .func (.func 127) #[] #[], .func (.func 128) #[] #[], .func (.func 129) #[] #[], .func (.func 130) #[] #[]] from rfl] at hc
            clear hcs
            go_wp2_with fail
            refine hc.mono ?_
            rintro e w4 ⟨rfl, hH4, hb4⟩
            go_wp2
            go_roundw
            case rel => exact ⟨k + 1, by omega, by go_num, by rw [hmkh.out]; exact hH4, hstep.out w4 hb4⟩
            case measure => simp [intOf]; omega
          · have hp0 : wr.cell? ⟨pb, 5, none⟩ = some (.string ⟨#[101, 97, 114, 116, 104]⟩) := by obtain ⟨v, h1, h2⟩ := hcs 0 (by omega); cases h1; exact h2
            have hp1 : wr.cell? ⟨pb, 6, none⟩ = some (.func (.func 131) #[] #[]) := by obtain ⟨v, h1, h2⟩ := hcs 1 (by omega); cases h1; exact h2
            have hp2 : wr.cell? ⟨pb, 7, none⟩ = some (.func (.func 132) #[] #[]) := by obtain ⟨v, h1, h2⟩ := hcs 2 (by omega); cases h1; exact h2
            have hp3 : wr.cell? ⟨pb, 8, none⟩ = some (.func (.func 133) #[] #[]) := by obtain ⟨v, h1, h2⟩ := hcs 3 (by omega); cases h1; exact h2
            have hp4 : wr.cell? ⟨pb, 9, none⟩ = some (.func (.func 134) #[] #[]) := by obtain ⟨v, h1, h2⟩ := hcs 4 (by omega); cases h1; exact h2
            rw [show pack 1 = .agg #[.string ⟨#[101, 97, 114, 116, 104]⟩, .func (.func 131) #[] #[], .func (.func 132) #[] #[], .func (.func 133) #[] #[], .func (.func 134) #[] #[]] from rfl] at hc
            clear hcs
            go_wp2_with fail
            refine hc.mono ?_
            rintro e w4 ⟨rfl, hH4, hb4⟩
            go_wp2
            go_roundw
            case rel => exact ⟨k + 1, by omega, by go_num, by rw [hmkh.out]; exact hH4, hstep.out w4 hb4⟩
            case measure => simp [intOf]; omega
          · have hp0 : wr.cell? ⟨pb, 10, none⟩ = some (.string ⟨#[102, 105, 114, 101]⟩) := by obtain ⟨v, h1, h2⟩ := hcs 0 (by omega); cases h1; exact h2
            have hp1 : wr.cell? ⟨pb, 11, none⟩ = some (.func (.func 135) #[] #[]) := by obtain ⟨v, h1, h2⟩ := hcs 1 (by omega); cases h1; exact h2
            have hp2 : wr.cell? ⟨pb, 12, none⟩ = some (.func (.func 136) #[] #[]) := by obtain ⟨v, h1, h2⟩ := hcs 2 (by omega); cases h1; exact h2
            have hp3 : wr.cell? ⟨pb, 13, none⟩ = some (.func (.func 137) #[] #[]) := by obtain ⟨v, h1, h2⟩ := hcs 3 (by omega); cases h1; exact h2
            have hp4 : wr.cell? ⟨pb, 14, none⟩ = some (.func (.func 138) #[] #[]) := by obtain ⟨v, h1, h2⟩ := hcs 4 (by omega); cases h1; exact h2
            rw [show pack 2 = .agg #[.string ⟨#[102, 105, 114, 101]⟩, .func (.func 135) #[] #[], .func (.func 136) #[] #[], .func (.func 137) #[] #[], .func (.func 138) #[] #[]] from rfl] at hc
            clear hcs
            go_wp2_with fail
            refine hc.mono ?_
            rintro e w4 ⟨rfl, hH4, hb4⟩
            go_wp2
            go_roundw
            case rel => exact ⟨k + 1, by omega, by go_num, by rw [hmkh.out]; exact hH4, hstep.out w4 hb4⟩
            case measure => simp [intOf]; omega
          · have hp0 : wr.cell? ⟨pb, 15, none⟩ = some (.string ⟨#[119, 97, 116, 101, 114]⟩) := by obtain ⟨v, h1, h2⟩ := hcs 0 (by omega); cases h1; exact h2
            have hp1 : wr.cell? ⟨pb, 16, none⟩ = some (.func (.func 139) #[] #[]) := by obtain ⟨v, h1, h2⟩ := hcs 1 (by omega); cases h1; exact h2
            have hp2 : wr.cell? ⟨pb, 17, none⟩ = some (.func (.func 140) #[] #[]) := by obtain ⟨v, h1, h2⟩ := hcs 2 (by omega); cases h1; exact h2
            have hp3 : wr.cell? ⟨pb, 18, none⟩ = some (.func (.func 141) #[] #[]) := by obtain ⟨v, h1, h2⟩ := hcs 3 (by omega); cases h1; exact h2
            have hp4 : wr.cell? ⟨pb, 19, none⟩ = some (.func (.func 142) #[] #[]) := by obtain ⟨v, h1, h2⟩ := hcs 4 (by omega); cases h1; exact h2
            rw [show pack 3 = .agg #[.string ⟨#[119, 97, 116, 101, 114]⟩, .func (.func 139) #[] #[], .func (.func 140) #[] #[], .func (.func 141) #[] #[], .func (.func 142) #[] #[]] from rfl] at hc
            clear hcs
            go_wp2_with fail
            refine hc.mono ?_
            rintro e w4 ⟨rfl, hH4, hb4⟩
            go_wp2
            go_roundw
            case rel => exact ⟨k + 1, by omega, by go_num, by rw [hmkh.out]; exact hH4, hstep.out w4 hb4⟩
            case measure => simp [intOf]; omega
          · have hp0 : wr.cell? ⟨pb, 20, none⟩ = some (.string ⟨#[118, 111, 105, 100]⟩) := by obtain ⟨v, h1, h2⟩ := hcs 0 (by omega); cases h1; exact h2
            have hp1 : wr.cell? ⟨pb, 21, none⟩ = some (.func (.func 143) #[] #[]) := by obtain ⟨v, h1, h2⟩ := hcs 1 (by omega); cases h1; exact h2
            have hp2 : wr.cell? ⟨pb, 22, none⟩ = some (.func (.func 144) #[] #[]) := by obtain ⟨v, h1, h2⟩ := hcs 2 (by omega); cases h1; exact h2
            have hp3 : wr.cell? ⟨pb, 23, none⟩ = some (.func (.func 145) #[] #[]) := by obtain ⟨v, h1, h2⟩ := hcs 3 (by omega); cases h1; exact h2
            have hp4 : wr.cell? ⟨pb, 24, none⟩ = some (.func (.func 146) #[] #[]) := by obtain ⟨v, h1, h2⟩ := hcs 4 (by omega); cases h1; exact h2
            rw [show pack 4 = .agg #[.string ⟨#[118, 111, 105, 100]⟩, .func (.func 143) #[] #[], .func (.func 144) #[] #[], .func (.func 145) #[] #[], .func (.func 146) #[] #[]] from rfl] at hc
            clear hcs
            go_wp2_with fail
            refine hc.mono ?_
            rintro e w4 ⟨rfl, hH4, hb4⟩
            go_wp2
            go_roundw
            case rel => exact ⟨k + 1, by omega, by go_num, by rw [hmkh.out]; exact hH4, hstep.out w4 hb4⟩
            case measure => simp [intOf]; omega
          · have hp0 : wr.cell? ⟨pb, 25, none⟩ = some (.string ⟨#[103, 111, 108, 100]⟩) := by obtain ⟨v, h1, h2⟩ := hcs 0 (by omega); cases h1; exact h2
            have hp1 : wr.cell? ⟨pb, 26, none⟩ = some (.func (.func 147) #[] #[]) := by obtain ⟨v, h1, h2⟩ := hcs 1 (by omega); cases h1; exact h2
            have hp2 : wr.cell? ⟨pb, 27, none⟩ = some (.func (.func 148) #[] #[]) := by obtain ⟨v, h1, h2⟩ := hcs 2 (by omega); cases h1; exact h2
            have hp3 : wr.cell? ⟨pb, 28, none⟩ = some (.func (.func 149) #[] #[]) := by obtain ⟨v, h1, h2⟩ := hcs 3 (by omega); cases h1; exact h2
            have hp4 : wr.cell? ⟨pb, 29, none⟩ = some (.func (.func 150) #[] #[]) := by obtain ⟨v, h1, h2⟩ := hcs 4 (by omega); cases h1; exact h2
            rw [show pack 5 = .agg #[.string ⟨#[103, 111, 108, 100]⟩, .func (.func 147) #[] #[], .func (.func 148) #[] #[], .func (.func 149) #[] #[], .func (.func 150) #[] #[]] from rfl] at hc
            clear hcs
            go_wp2_with fail
            refine hc.mono ?_
            rintro e w4 ⟨rfl, hH4, hb4⟩
            go_wp2
            go_roundw
            case rel => exact ⟨k + 1, by omega, by go_num, by rw [hmkh.out]; exact hH4, hstep.out w4 hb4⟩
            case measure => simp [intOf]; omega
        · have hd : decide ((k : Int) < 6) = false := decide_eq_false (by omega)
          have : k = 6 := by omega
          subst this
          rw [List.take_of_length_le (by omega), hm] at hH
          clear hpc hck
          go_wp2_with fail
          refine (c_seal hH).mono ?_
          rintro e w5 ⟨rfl, hH5, hb5⟩
          go_wp2
          go_ret2
          exact ⟨⟨bk, rfl, Bar, hBw, hH5⟩, hbel.trans (hb5.mono hBw)⟩
end Go.Proofs.YtecmlefiajhajaaGreatDoor.wh
