/- Plain laws: a book filled without a refusal: a mark's step; the end. -/
import Derived.Test.YtdgbnaignpploaaDoorP3
namespace Go.Proofs.YtdgbnaignpploaaDoor.bk
open Go.Sym
set_option linter.unusedVariables false
theorem step_mark {cards : List KC} {texts : List ByteArray} {marks : List MK} {D : List Bool} {cs : List KC} {ns : List ByteArray} {ms : List MK} (h : Full cards texts marks D cs ns ms) {j : Nat} {m : MK}
    (hD : D[cards.length + texts.length + j]? = some false) (hm : marks[j]? = some m) (h0 : markRes false ms m = 0) : Full cards texts marks (D.set (cards.length + texts.length + j) true) cs ns (ms.set m.ma.toNat m) := by
  have hz : (1 ≤ m.ma ∧ m.ma ≤ 4) ∧ ∀ y, ms[m.ma.toNat]? = some y → y.ma = 0 := by
    unfold markRes at h0
    rw [if_neg (by simp)] at h0
    split at h0
    · cases h0
    · rename_i g1
      split at h0
      · cases h0
      · split at h0
        · cases h0
        · rename_i g3
          refine ⟨by omega, fun y hy => ?_⟩
          rw [hy] at g3
          simpa using g3
  have hno : ∀ (j' : Nat) (m' : MK), D[cards.length + texts.length + j']? = some true → marks[j']? = some m' → m'.ma.toNat ≠ m.ma.toNat := by
    intro j' m' g1 g2 g3
    obtain ⟨y, hy⟩ : ∃ y, ms[m.ma.toNat]? = some y := ⟨_, List.getElem?_eq_getElem (by rw [h.ml]; omega)⟩
    rcases h.msA _ y hy with ⟨k1, k2⟩ | ⟨k1, -⟩
    · exact k2 j' m' g1 g2 g3
    · have := hz.2 y hy; omega
  refine ⟨h.st, fun v => ?_, ?_, h.nl, fun k hk => ?_, by rw [List.length_set]; exact h.ml, fun k y hy => ?_, fun j1 j2 m1 m2 h1 h2 g1 g2 g3 => ?_⟩
  · rw [h.mem v]
    constructor
    · rintro ⟨i, c, g1, g2, g3⟩; exact ⟨i, c, (set_true hD i).2 (.inr g1), g2, g3⟩
    · rintro ⟨i, c, g1, g2, g3⟩
      have := (List.getElem?_eq_some_iff.1 g2).1
      rcases (set_true hD i).1 g1 with e | e
      · omega
      · exact ⟨i, c, e, g2, g3⟩
  · rw [List.take_set_of_le (by omega)]; exact h.len
  · rw [h.nsA k hk]
    congr 1
    unfold nsAt
    have : (1 ≤ k ∧ k - 1 < texts.length ∧ (D.set (cards.length + texts.length + j) true)[cards.length + (k - 1)]? = some true) ↔ (1 ≤ k ∧ k - 1 < texts.length ∧ D[cards.length + (k - 1)]? = some true) := by
      rw [set_true hD]
      constructor
      · rintro ⟨a, b, e' | e'⟩
        · omega
        · exact ⟨a, b, e'⟩
      · rintro ⟨a, b, e'⟩; exact ⟨a, b, .inr e'⟩
    simp only [this]
  · rw [List.getElem?_set] at hy
    split at hy
    · rename_i e
      rw [if_pos (by rw [h.ml]; omega)] at hy
      cases hy
      exact .inr ⟨hz.1.1, j, (set_true hD _).2 (.inl rfl), hm, e⟩
    · rename_i e
      rcases h.msA k y hy with ⟨g1, g2⟩ | ⟨g1, j', g2, g3, g4⟩
      · refine .inl ⟨g1, fun j' m' hj' hm' => ?_⟩
        rcases (set_true hD _).1 hj' with e' | e'
        · have : j' = j := by omega
          subst this
          rw [hm] at hm'; cases hm'; exact e
        · exact g2 j' m' e' hm'
      · exact .inr ⟨g1, j', (set_true hD _).2 (.inr g2), g3, g4⟩
  · rcases (set_true hD _).1 h1 with e | e
    · have e : j1 = j := by omega
      subst e
      rw [hm] at g1; cases g1
      rcases (set_true hD _).1 h2 with e2 | e2
      · omega
      · exact absurd g3.symm (hno j2 m2 e2 g2)
    · rcases (set_true hD _).1 h2 with e2 | e2
      · have e2 : j2 = j := by omega
        subst e2
        rw [hm] at g2; cases g2
        exact absurd g3 (hno j1 m1 e g1)
      · exact h.inj j1 j2 m1 m2 e e2 g1 g2 g3
theorem finv_step {cards : List KC} {texts : List ByteArray} {marks : List MK} (D : List Bool) (r : Nat) (cs : List KC) (ns : List ByteArray) (ms : List MK) (i : Nat) (it : Item) (e : Int) (cs' : List KC) (ns' : List ByteArray) (ms' : List MK)
    (h : FInv cards texts marks D r cs ns ms) (hD : D[i]? = some false) (hi : itemAt cards texts marks i = some it) (hs : Step false e cs cs' ns ns' ms ms' it) : FInv cards texts marks (D.set i true) (if e = 0 then r else r + 1) cs' ns' ms' := by
  by_cases he : e = 0
  · rw [if_pos he]
    rcases h with h | h
    · exact .inl h
    · refine .inr ?_
      cases it with
      | card c =>
        obtain ⟨h1, rfl, rfl, ⟨-, po', pc', rfl⟩ | ⟨h2, -⟩⟩ := hs
        · obtain ⟨k1, k2⟩ := itemAt_card hi
          exact step_card h hD k1 k2 (h1.symm.trans he)
        · exact absurd he h2
      | trait t x =>
        obtain ⟨h1, rfl, rfl, ⟨-, rfl⟩ | ⟨h2, -⟩⟩ := hs
        · obtain ⟨j, rfl, k2, rfl⟩ := itemAt_trait hi
          exact step_trait h hD k2
        · exact absurd he h2
      | mark m =>
        obtain ⟨h1, rfl, rfl, ⟨-, rfl⟩ | ⟨h2, -⟩⟩ := hs
        · obtain ⟨j, rfl, k2⟩ := itemAt_mark hi
          exact step_mark h hD k2 (h1.symm.trans he)
        · exact absurd he h2
  · rw [if_neg he]
    exact .inl (by omega)
/-- all is done: the same cards, names and marks, in whatever order -/
theorem full_same {cards : List KC} {texts : List ByteArray} {marks : List MK} {cs ds : List KC} {ns ns' : List ByteArray} {ms ms' : List MK} {m : Nat} (hm : m = cards.length + texts.length + marks.length)
    (h : Full cards texts marks (List.replicate m true) cs ns ms) (k : Full cards texts marks (List.replicate m true) ds ns' ms') : cs.map KC.val = ds.map KC.val ∧ ns = ns' ∧ ms = ms' ∧ cs.length = cards.length := by
  refine ⟨stand_unique h.st k.st fun v => (h.mem v).trans (k.mem v).symm, ?_, ?_, ?_⟩
  · refine List.ext_getElem? fun j => ?_
    by_cases hj : j < 9
    · rw [h.nsA j hj, k.nsA j hj]
    · rw [List.getElem?_eq_none (by rw [h.nl]; omega), List.getElem?_eq_none (by rw [k.nl]; omega)]
  · have ht : ∀ (j : Nat) (m' : MK), marks[j]? = some m' → (List.replicate m true)[cards.length + texts.length + j]? = some true := by
      intro j m' hj
      have := (List.getElem?_eq_some_iff.1 hj).1
      rw [List.getElem?_replicate, if_pos (by omega)]
    refine List.ext_getElem? fun j => ?_
    by_cases hj : j < 5
    · obtain ⟨y, hy⟩ : ∃ y, ms[j]? = some y := ⟨_, List.getElem?_eq_getElem (by rw [h.ml]; exact hj)⟩
      obtain ⟨z, hz⟩ : ∃ z, ms'[j]? = some z := ⟨_, List.getElem?_eq_getElem (by rw [k.ml]; exact hj)⟩
      rw [hy, hz]
      rcases h.msA j y hy with ⟨g1, g2⟩ | ⟨g1, a, g2, g3, g4⟩
      · rcases k.msA j z hz with ⟨l1, l2⟩ | ⟨l1, b, l2, l3, l4⟩
        · rw [g1, l1]
        · exact absurd l4 (g2 b z l2 l3)
      · rcases k.msA j z hz with ⟨l1, l2⟩ | ⟨l1, b, l2, l3, l4⟩
        · exact absurd g4 (l2 a y g2 g3)
        · have := h.inj a b y z g2 l2 g3 l3 (g4.trans l4.symm)
          subst this
          rw [g3] at l3
          exact l3
    · rw [List.getElem?_eq_none (by rw [h.ml]; omega), List.getElem?_eq_none (by rw [k.ml]; omega)]
  · rw [h.len, List.take_replicate, List.count_replicate]
    simp
    omega
end Go.Proofs.YtdgbnaignpploaaDoor.bk
