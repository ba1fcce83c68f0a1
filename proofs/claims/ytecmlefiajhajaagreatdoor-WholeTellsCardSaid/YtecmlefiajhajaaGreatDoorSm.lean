/- A named state, with one block more that is read. -/
import Derived.Test.YtecmlefiajhajaaGreatDoorSf
namespace Go.Sim
variable [Val]
open Go.RowKit
variable {P : Program} {e : Env} {NG Bar : Nat} {S : St} {w : World}

omit [Val] in
theorem blOf_nil : blOf [] = .leaf := rfl
omit [Val] in
theorem blOf_cons (p : Nat × KB) (l : List (Nat × KB)) : blOf (p :: l) = (blOf l).set (some p.2.blk) p.1 := rfl
omit [Val] in
theorem blOf_set {l : List (Nat × KB)} {n m : Nat} {k : KB} {B : Blk} (hl : ∀ p ∈ l, p.1 < 1000000) (hm : m < 1000000) (hne : ∀ p ∈ l, p.1 ≠ m) (h : (blOf (l ++ [(m, k)])).get n = some B) : (n = m ∧ B = k.blk) ∨ (n ≠ m ∧ (blOf l).get n = some B) := by
  induction l with
  | nil =>
    rw [List.nil_append, blOf_cons, blOf_nil, get_set _ _ _ _ (by omega)] at h
    have h' := h
    split at h'
    · rename_i hn
      cases h'
      exact .inl ⟨hn, rfl⟩
    · simp [Tr.get] at h'
  | cons p l ih =>
    have hp := hl p (List.mem_cons_self ..)
    rw [List.cons_append, blOf_cons, get_set _ _ _ _ (by omega)] at h
    have h' := h
    have hg : (blOf (p :: l)).get n = if n = p.1 then some p.2.blk else (blOf l).get n := by
      rw [blOf_cons, get_set _ _ _ _ (by omega)]
    split at h'
    · rename_i hn
      have := hne p (List.mem_cons_self ..)
      exact .inr ⟨by omega, by rw [hg, if_pos hn]; exact h'⟩
    · rename_i hn
      rcases ih (fun q hq => hl q (List.mem_cons_of_mem _ hq)) (fun q hq => hne q (List.mem_cons_of_mem _ hq)) h' with h1 | ⟨h1, h2⟩
      · exact .inl h1
      · exact .inr ⟨h1, by rw [hg, if_neg hn]; exact h2⟩

theorem RS.addRo {next : Nat} {hp ro : List (Nat × KB)} {k : KB} {b : Nat} {cs : Array Value} {t : TypeId} {f : Nat × Nat} (hS : RS NG Bar e (mkSt next hp ro) w) (hb : w.heap[b]? = some (.cells cs t f)) (hbar : Bar ≤ b) (hfar : ∀ n p, e n = some (b, p) → False)
    (hk : ∀ p ∈ k.cells, p.1 < 1000000 ∧ flat p.2 = true ∧ cs[p.1]? = some p.2) (hro : ∀ p ∈ ro, p.1 < 1000000 ∧ p.1 < next) (hhp : ∀ p ∈ hp, p.1 < 1000000 ∧ p.1 < next) (hn : next < 1000000) :
    ∃ e2, RS NG Bar e2 (mkSt (next + 1) hp (ro ++ [(next, k)])) w ∧ (∀ n, n < next → e2 n = e n) ∧ e2 next = some (b, 0) := by
  have hnext : e next = none := hS.fresh next (Nat.le_refl _)
  have he2 : ∃ e2 : Env, (∀ n, n ≠ next → e2 n = e n) ∧ e2 next = some (b, 0) := ⟨fun n => if n = next then some (b, 0) else e n, fun n hn => if_neg hn, if_pos rfl⟩
  obtain ⟨e2, h1, h2⟩ := he2
  have hsub : Sub e e2 := fun n p hn => by rw [h1 n (fun h => by rw [h, hnext] at hn; cases hn)]; exact hn
  have hhn : ∀ n B, (blOf hp).get n = some B → n < next := fun n B hB => by
    obtain ⟨k', hm, -⟩ := blOf_get (fun p hp' => (hhp p hp').1) hB
    exact (hhp _ hm).2
  have hrn : ∀ n B, (blOf (ro ++ [(next, k)])).get n = some B → (n = next ∧ B = k.blk) ∨ (n ≠ next ∧ (blOf ro).get n = some B) := fun n B hB => blOf_set (fun p hp' => (hro p hp').1) hn (fun p hp' => by have := (hro p hp').2; omega) hB
  refine ⟨e2, ⟨fun n B hB => ?_, fun n B hB => by simp [mkSt, Tr.get] at hB, fun n m B C c p p' hB hC hx hy => ?_, fun n m B C c p p' hB => by simp [mkSt, Tr.get] at hB, fun n hle => ?_, fun n c p hx hle => ?_, fun n c p hx => ?_, hS.room, Nat.le_trans hS.low (Nat.le_succ _), fun n hlt => ?_,
    fun n l hl => by simp [mkSt, Tr.get] at hl, fun n m l l' c p p' hl => by simp [mkSt, Tr.get] at hl, fun n B hB => ?_, fun n m B C c p p' hB hC hx hy => ?_, fun n m B C c p p' _ hC => by simp [mkSt, Tr.get] at hC⟩, fun n hlt => h1 n (by omega), h2⟩
  · obtain ⟨c, p, g1, g2⟩ := hS.blk n B hB
    exact ⟨c, p, hsub _ _ g1, g2.congr hsub rfl⟩
  · rw [h1 n (by have := hhn n B hB; omega)] at hx
    rw [h1 m (by have := hhn m C hC; omega)] at hy
    exact hS.inj n m B C c p p' hB hC hx hy
  · have hle : next + 1 ≤ n := hle
    rw [h1 n (by omega)]
    exact hS.fresh n (show next ≤ n by omega)
  · by_cases hnn : n = next
    · subst hnn
      rw [h2] at hx
      cases hx
      exact hbar
    · rw [h1 n hnn] at hx
      exact hS.bar n c p hx hle
  · by_cases hnn : n = next
    · subst hnn
      rw [h2] at hx
      cases hx
      exact (Array.getElem?_eq_some_iff.1 hb).1
    · rw [h1 n hnn] at hx
      exact hS.hi n c p hx
  · have hlt : n < next + 1 := hlt
    by_cases hnn : n = next
    · exact ⟨_, by rw [hnn]; exact h2⟩
    · rw [h1 n hnn]
      exact hS.full n (show n < next by omega)
  · rcases hrn n B hB with ⟨rfl, rfl⟩ | ⟨hnn, hB⟩
    · refine ⟨b, 0, h2, cs, t, f, hb, fun i v hv => ?_⟩
      obtain ⟨g1, -⟩ := KB.get (fun p hp' => (hk p hp').1) hv
      obtain ⟨-, g2, g3⟩ := hk _ g1
      exact ⟨v, g3, RV.of_flat g2⟩
    · obtain ⟨c, p, g1, g2⟩ := hS.ro n B hB
      obtain ⟨cs', t', f', g3, g4⟩ := g2
      exact ⟨c, p, hsub _ _ g1, cs', t', f', g3, fun i v hv => by obtain ⟨v', a1, a2⟩ := g4 i v hv; exact ⟨v', a1, a2.mono hsub⟩⟩
  · rw [h1 m (by have := hhn m C hC; omega)] at hy
    rcases hrn n B hB with ⟨rfl, rfl⟩ | ⟨hnn, hB⟩
    · rw [h2] at hx
      cases hx
      exact hfar m p' hy
    · rw [h1 n hnn] at hx
      exact hS.roi n m B C c p p' hB hC hx hy
end Go.Sim
