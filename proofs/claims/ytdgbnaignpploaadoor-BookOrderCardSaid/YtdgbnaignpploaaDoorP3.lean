/- Plain laws: a book filled without a refusal: a step. -/
import Derived.Test.YtdgbnaignpploaaDoorP2
namespace Go.Proofs.YtdgbnaignpploaaDoor.bk
open Go.Sym
set_option linter.unusedVariables false
theorem set_true {D : List Bool} {i : Nat} (h : D[i]? = some false) (k : Nat) : (D.set i true)[k]? = some true ↔ k = i ∨ D[k]? = some true := by
  have hi := (List.getElem?_eq_some_iff.1 h).1
  rw [List.getElem?_set]
  split
  · rename_i e; subst e; simp [hi]
  · rename_i e
    constructor
    · exact .inr
    · rintro (h | h)
      · exact absurd h.symm e
      · exact h
theorem count_set_true : ∀ {D : List Bool} {i : Nat}, D[i]? = some false → (D.set i true).count true = D.count true + 1
  | [], i, h => by simp at h
  | d :: D, 0, h => by
    simp at h
    subst h
    simp
  | d :: D, i + 1, h => by
    have := count_set_true (D := D) (i := i) (by simpa using h)
    rw [List.set_cons_succ, List.count_cons, List.count_cons, this]
    omega
theorem step_card {cards : List KC} {texts : List ByteArray} {marks : List MK} {D : List Bool} {cs : List KC} {ns : List ByteArray} {ms : List MK} (h : Full cards texts marks D cs ns ms) {i : Nat} {c : KC} {po' : Option Addr} {pc' : Nat}
    (hD : D[i]? = some false) (hi : i < cards.length) (hc : cards[i]? = some c) (h0 : cardRes false cs c = 0) : Full cards texts marks (D.set i true) (ins ⟨c.h, po', pc', c.ps⟩ cs) ns ms := by
  have hp : ¬ 0 ≤ pos c.h.nm cs := by
    intro hp
    unfold cardRes at h0
    rw [if_neg (by simp)] at h0
    split at h0
    · rename_i h1; exact h1 h0
    · first | cases h0 | (rw [if_pos hp] at h0; cases h0)
  refine ⟨ins_stand h.st (pos_no hp), fun v => ?_, ?_, h.nl, fun k hk => ?_, h.ml, fun k y hy => ?_, fun j1 j2 m1 m2 h1 h2 => ?_⟩
  · constructor
    · intro hv
      obtain ⟨d, hd, rfl⟩ := List.mem_map.1 hv
      rcases mem_ins_iff.1 hd with rfl | hd
      · exact ⟨i, c, (set_true hD i).2 (.inl rfl), hc, rfl⟩
      · obtain ⟨i', c', g1, g2, g3⟩ := (h.mem d.val).1 (List.mem_map_of_mem hd)
        exact ⟨i', c', (set_true hD i').2 (.inr g1), g2, g3⟩
    · rintro ⟨i', c', g1, g2, rfl⟩
      rcases (set_true hD i').1 g1 with rfl | g1
      · rw [hc] at g2; cases g2
        exact List.mem_map.2 ⟨_, mem_ins_iff.2 (.inl rfl), rfl⟩
      · obtain ⟨d, hd, he⟩ := List.mem_map.1 ((h.mem c'.val).2 ⟨i', c', g1, g2, rfl⟩)
        exact List.mem_map.2 ⟨d, mem_ins_iff.2 (.inr hd), he⟩
  · rw [ins_len, h.len, List.take_set, count_set_true]
    rw [List.getElem?_take, if_pos hi]; exact hD
  · rw [h.nsA k hk]
    congr 1
    unfold nsAt
    have : ((D.set i true)[cards.length + (k - 1)]? = some true) ↔ (D[cards.length + (k - 1)]? = some true) := by
      rw [set_true hD]
      constructor
      · rintro (e | e)
        · omega
        · exact e
      · exact .inr
    simp only [this]
  · rcases h.msA k y hy with ⟨g1, g2⟩ | ⟨g1, j, g2, g3, g4⟩
    · refine .inl ⟨g1, fun j m hj => ?_⟩
      rcases (set_true hD _).1 hj with e | e
      · omega
      · exact g2 j m e
    · exact .inr ⟨g1, j, (set_true hD _).2 (.inr g2), g3, g4⟩
  · rcases (set_true hD _).1 h1 with e | e
    · omega
    · rcases (set_true hD _).1 h2 with e2 | e2
      · omega
      · exact h.inj j1 j2 m1 m2 e e2
theorem step_trait {cards : List KC} {texts : List ByteArray} {marks : List MK} {D : List Bool} {cs : List KC} {ns : List ByteArray} {ms : List MK} (h : Full cards texts marks D cs ns ms) {j : Nat} {x : ByteArray}
    (hD : D[cards.length + j]? = some false) (hx : texts[j]? = some x) : Full cards texts marks (D.set (cards.length + j) true) cs (ns.set (1 + (j : Int)).toNat x) ms := by
  have hj := (List.getElem?_eq_some_iff.1 hx).1
  have hjn : (1 + (j : Int)).toNat = j + 1 := by omega
  rw [hjn]
  refine ⟨h.st, fun v => ?_, ?_, by rw [List.length_set]; exact h.nl, fun k hk => ?_, h.ml, fun k y hy => ?_, fun j1 j2 m1 m2 h1 h2 => ?_⟩
  · rw [h.mem v]
    constructor
    · rintro ⟨i, c, g1, g2, g3⟩; exact ⟨i, c, (set_true hD i).2 (.inr g1), g2, g3⟩
    · rintro ⟨i, c, g1, g2, g3⟩
      have := (List.getElem?_eq_some_iff.1 g2).1
      rcases (set_true hD i).1 g1 with e | e
      · omega
      · exact ⟨i, c, e, g2, g3⟩
  · rw [List.take_set_of_le (by omega)]; exact h.len
  · rw [List.getElem?_set]
    split
    · rename_i e
      subst e
      rw [if_pos (by rw [h.nl]; omega)]
      unfold nsAt
      rw [if_pos ⟨by omega, by omega, (set_true hD _).2 (.inl (by omega))⟩, Nat.add_sub_cancel, hx]; rfl
    · rename_i e
      rw [h.nsA k hk]
      congr 1
      unfold nsAt
      have : (1 ≤ k ∧ k - 1 < texts.length ∧ (D.set (cards.length + j) true)[cards.length + (k - 1)]? = some true) ↔ (1 ≤ k ∧ k - 1 < texts.length ∧ D[cards.length + (k - 1)]? = some true) := by
        rw [set_true hD]
        constructor
        · rintro ⟨a, b, e' | e'⟩
          · omega
          · exact ⟨a, b, e'⟩
        · rintro ⟨a, b, e'⟩; exact ⟨a, b, .inr e'⟩
      simp only [this]
  · rcases h.msA k y hy with ⟨g1, g2⟩ | ⟨g1, j', g2, g3, g4⟩
    · refine .inl ⟨g1, fun j' m hj' => ?_⟩
      rcases (set_true hD _).1 hj' with e | e
      · omega
      · exact g2 j' m e
    · exact .inr ⟨g1, j', (set_true hD _).2 (.inr g2), g3, g4⟩
  · rcases (set_true hD _).1 h1 with e | e
    · omega
    · rcases (set_true hD _).1 h2 with e2 | e2
      · omega
      · exact h.inj j1 j2 m1 m2 e e2
end Go.Proofs.YtdgbnaignpploaaDoor.bk
