/- Two named states that are only read, in one. -/
import Derived.Test.YtecmlefiajhajaaGreatDoorSg
namespace Go.Sim
variable [Val]
open Go.RowKit
variable {P : Program} {e : Env} {NG Bar : Nat} {S : St} {w : World}

/-- a cell's names lie between two bounds -/
def okR (lo hi : Nat) : Value → Bool
  | .pointer (some ⟨b, _, none⟩) => Nat.ble lo b && Nat.blt b hi
  | .slice (some ⟨b, _, none⟩) _ _ => Nat.ble lo b && Nat.blt b hi
  | v => flat v
theorem okR_map {lo hi : Nat} {e2 : Env} {v v' : Value} (h2 : ∀ n, lo ≤ n → n < hi → e2 n = e n) (hok : okR lo hi v = true) (h : RV e v v') : RV e2 v v' := by
  unfold okR at hok
  split at hok
  · rename_i b o
    rw [Bool.and_eq_true, blt_dec, ble_dec] at hok
    rw [RV] at h ⊢
    obtain ⟨b', k, h3, h4, h5⟩ := h
    exact ⟨b', k, (h2 b (of_decide_eq_true hok.1) (of_decide_eq_true hok.2)).trans h3, rfl, h5⟩
  · rename_i b o l c
    rw [Bool.and_eq_true, blt_dec, ble_dec] at hok
    rw [RV] at h ⊢
    obtain ⟨b', k, h3, h4, h5, h6⟩ := h
    exact ⟨b', k, (h2 b (of_decide_eq_true hok.1) (of_decide_eq_true hok.2)).trans h3, rfl, h5, h6⟩
  · rw [RV.flat_eq hok h]
    exact RV.of_flat hok

/-- the list is what its trie tells, and its names lie between two bounds -/
noncomputable def chkRo (lo hi : Nat) (l : List (Nat × KB)) : Bool :=
  l.all fun p => Nat.ble lo p.1 && Nat.blt p.1 hi && Nat.blt p.1 1000000 && match (blOf l).get p.1 with
    | some B => p.2.cells.all fun q => Nat.blt q.1 1000000 && okR lo hi q.2 && (match B.get q.1 with | some u => eqC u q.2 | none => false)
    | none => false

/-- what is known of the blocks of a list -/
def RoL (e : Env) (l : List (Nat × KB)) (w : World) : Prop :=
  ∀ p ∈ l, ∃ b c cs t f, e p.1 = some (b, c) ∧ w.heap[b]? = some (.cells cs t f) ∧ ∀ q ∈ p.2.cells, ∃ v', cs[q.1]? = some v' ∧ RV e q.2 v'

theorem RoL.of_rs {lo hi next : Nat} {hp l : List (Nat × KB)} (hS : RS NG Bar e (mkSt next hp l) w) (h : chkRo lo hi l = true) {e2 : Env} (h2 : ∀ n, lo ≤ n → n < hi → e2 n = e n) : RoL e2 l w := fun p hp => by
  have := List.all_eq_true.1 h p hp
  simp only [Bool.and_eq_true, blt_dec, ble_dec, decide_eq_true_eq] at this
  obtain ⟨⟨⟨h3, h4⟩, h5⟩, h6⟩ := this
  split at h6
  · rename_i B hB
    obtain ⟨b, k, g1, cs, t, f, g2, g3⟩ := hS.ro p.1 B hB
    refine ⟨b, k, cs, t, f, (h2 _ h3 h4).trans g1, g2, fun q hq => ?_⟩
    have := List.all_eq_true.1 h6 q hq
    simp only [Bool.and_eq_true] at this
    obtain ⟨⟨-, hk⟩, hu⟩ := this
    split at hu
    · rename_i u hu1
      rw [eqC_spec hu] at hu1
      obtain ⟨v', g4, g5⟩ := g3 _ _ hu1
      exact ⟨v', g4, okR_map h2 hk g5⟩
    · cases hu
  · cases h6

theorem RoL.rs {e : Env} {l : List (Nat × KB)} {n : Nat} (hl : RoL e l w) (hk : ∀ p ∈ l, p.1 < 1000000 ∧ ∀ q ∈ p.2.cells, q.1 < 1000000) (h : ∀ i, i < n → ∃ p, e i = some p ∧ p.1 < w.heap.size) (h0 : ∀ i, n ≤ i → e i = none) : RS n w.heap.size e (mkSt n [] l) w := by
  have hR := rs_names e n w h h0
  refine ⟨fun n B h => by simp [mkSt, blOf, Tr.get] at h, fun n B h => by simp [mkSt, Tr.get] at h, fun n m B C b k k' h => by simp [mkSt, blOf, Tr.get] at h, fun n m B C b k k' h => by simp [mkSt, Tr.get] at h, h0, hR.bar, hR.hi, hR.room, Nat.le_refl _, hR.full,
    fun n l h => by simp [mkSt, Tr.get] at h, fun n m l l' b k k' h => by simp [mkSt, Tr.get] at h, fun m B hB => ?_, fun n m B C b k k' _ h => by simp [mkSt, blOf, Tr.get] at h, fun n m B C b k k' _ h => by simp [mkSt, Tr.get] at h⟩
  obtain ⟨k, hm, rfl⟩ := blOf_get (fun p hp => (hk p hp).1) (show (blOf l).get m = some B from hB)
  obtain ⟨b, c, cs, t, f, g1, g2, g3⟩ := hl _ hm
  refine ⟨b, c, g1, cs, t, f, g2, fun i v hv => ?_⟩
  obtain ⟨hq, -⟩ := KB.get (fun q hq => (hk _ hm).2 q hq) hv
  exact g3 _ hq

theorem rs_merge {n1 n2 NGA BarA NGF BarF : Nat} {eA eF : Env} {hpA hpF roA roF : List (Nat × KB)} (hA : RS NGA BarA eA (mkSt n1 hpA roA) w) (hF : RS NGF BarF eF (mkSt n2 hpF roF) w) (cA : chkRo 0 n1 roA = true) (cF : chkRo n1 n2 roF = true) (hle : n1 ≤ n2) :
    ∃ e, RS n2 w.heap.size e (mkSt n2 [] (roA ++ roF)) w ∧ (∀ i, i < n1 → e i = eA i) ∧ ∀ i, n1 ≤ i → e i = eF i := by
  obtain ⟨e, h1, h2⟩ : ∃ e : Env, (∀ i, i < n1 → e i = eA i) ∧ ∀ i, n1 ≤ i → e i = eF i := ⟨fun i => if i < n1 then eA i else eF i, fun i hi => if_pos hi, fun i hi => if_neg (by omega)⟩
  have key : ∀ {lo hi : Nat} {l : List (Nat × KB)}, chkRo lo hi l = true → ∀ p ∈ l, p.1 < 1000000 ∧ ∀ q ∈ p.2.cells, q.1 < 1000000 := fun h p hp => by
    have := List.all_eq_true.1 h p hp
    simp only [Bool.and_eq_true, blt_dec, ble_dec, decide_eq_true_eq] at this
    obtain ⟨⟨-, h5⟩, h6⟩ := this
    split at h6
    · refine ⟨h5, fun q hq => ?_⟩
      have := List.all_eq_true.1 h6 q hq
      simp only [Bool.and_eq_true, blt_dec, decide_eq_true_eq] at this
      exact this.1.1
    · cases h6
  have lA : RoL e roA w := RoL.of_rs hA cA fun n _ hn => h1 n hn
  have lF : RoL e roF w := RoL.of_rs hF cF fun n hn _ => h2 n hn
  refine ⟨e, RoL.rs (fun p hp => ?_) (fun p hp => ?_) (fun i hi => ?_) (fun i hi => ?_), h1, h2⟩
  · rcases List.mem_append.1 hp with h | h
    · exact lA p h
    · exact lF p h
  · rcases List.mem_append.1 hp with h | h
    · exact key cA p h
    · exact key cF p h
  · by_cases h : i < n1
    · rw [h1 i h]
      obtain ⟨p, hp⟩ := hA.full i h
      exact ⟨p, hp, hA.hi i _ _ hp⟩
    · rw [h2 i (by omega)]
      obtain ⟨p, hp⟩ := hF.full i hi
      exact ⟨p, hp, hF.hi i _ _ hp⟩
  · rw [h2 i (by omega)]
    exact hF.fresh i hi
end Go.Sim
