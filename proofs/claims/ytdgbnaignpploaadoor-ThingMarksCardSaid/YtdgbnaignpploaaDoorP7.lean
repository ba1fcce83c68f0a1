/- Plain laws: the program's book and the document's, card for card. -/
import Derived.Test.YtdgbnaignpploaaDoorR7
import Derived.Test.YtdgbnaignpploaaDoorP6
namespace Go.Proofs.YtdgbnaignpploaaDoor.bk
open Go.Sym
set_option linter.unusedVariables false
theorem rins_stand {c : KC} {cs : List KC} (h : Stand cs) (hc : ∀ d ∈ cs, beqB d.h.nm c.h.nm = false) : Stand (rins c cs) := by
  have h0 := h
  unfold rins
  have hr1 := fun j d (hj : j < rpos c.h cs) (hd : cs[j]? = some d) => rpos_below c.h hj hd
  have hr2 := fun d (hd : cs[rpos c.h cs]? = some d) => rpos_at c.h hd
  generalize rpos c.h cs = i at *
  unfold Stand at h ⊢
  rw [← List.take_append_drop i cs, List.pairwise_append] at h
  rw [List.pairwise_append, List.pairwise_cons]
  have htake : ∀ d ∈ cs.take i, less d.h c.h = true := by
    intro d hd
    obtain ⟨j, hj⟩ := List.getElem?_of_mem hd
    have hji : j < i := by have := (List.getElem?_eq_some_iff.1 hj).1; rw [List.length_take] at this; omega
    rw [List.getElem?_take, if_pos hji] at hj
    rcases less_total (hc d (List.mem_of_getElem? hj)) with h | h
    · exact h
    · rw [hr1 j d hji hj] at h; cases h
  have hdrop : ∀ d ∈ cs.drop i, less c.h d.h = true := by
    intro d hd
    obtain ⟨j, hj⟩ := List.getElem?_of_mem hd
    rw [List.getElem?_drop] at hj
    have hjl := (List.getElem?_eq_some_iff.1 hj).1
    obtain ⟨e, he⟩ : ∃ e, cs[i]? = some e := ⟨_, List.getElem?_eq_getElem (by omega)⟩
    have h2 := hr2 e he
    by_cases hj0 : j = 0
    · subst hj0; rw [Nat.add_zero] at hj; rw [he] at hj; cases hj; exact h2
    · refine less_trans h2 ?_
      obtain ⟨a1, a2⟩ := List.getElem?_eq_some_iff.1 hj
      obtain ⟨b1, b2⟩ := List.getElem?_eq_some_iff.1 he
      rw [← a2, ← b2]
      exact List.pairwise_iff_getElem.1 h0 i (i + j) b1 a1 (by omega)
  refine ⟨h.1, ⟨hdrop, h.2.1⟩, fun a ha b hb => ?_⟩
  rcases List.mem_cons.1 hb with rfl | hb
  · exact htake a ha
  · exact h.2.2 a ha b hb
theorem mem_rins_iff {c d : KC} {cs : List KC} : d ∈ rins c cs ↔ d = c ∨ d ∈ cs := by
  unfold rins
  rw [List.mem_append, List.mem_cons]
  constructor
  · rintro (h | h | h)
    · exact .inr (List.mem_of_mem_take h)
    · exact .inl h
    · exact .inr (List.mem_of_mem_drop h)
  · rintro (h | h)
    · exact .inr (.inl h)
    · rw [← List.take_append_drop (rpos c.h cs) cs, List.mem_append] at h
      rcases h with h | h
      · exact .inl h
      · exact .inr (.inr h)
theorem cardRes_val {cs ds : List KC} (h : cs.map KC.val = ds.map KC.val) (s : Bool) (c : KC) : cardRes s cs c = cardRes s ds c := by
  have hl : cs.length = ds.length := by simpa using congrArg List.length h
  unfold cardRes
  rw [pos_val h, hl]
/-- both books' cards: the same, in the same order -/
structure Both (cs ds : List KC) : Prop where
  a : Stand cs
  b : Stand ds
  v : cs.map KC.val = ds.map KC.val
theorem Both.nil : Both [] [] := ⟨List.Pairwise.nil, List.Pairwise.nil, rfl⟩
theorem Both.step {cs ds : List KC} (h : Both cs ds) {c : KC} (h0 : cardRes false cs c = 0) (p1 : Option Addr) (n1 : Nat) (p2 : Option Addr) (n2 : Nat) : Both (ins ⟨c.h, p1, n1, c.ps⟩ cs) (rins ⟨c.h, p2, n2, c.ps⟩ ds) := by
  have h0' : cardRes false ds c = 0 := by rw [← cardRes_val h.v]; exact h0
  have s1 : Stand (ins ⟨c.h, p1, n1, c.ps⟩ cs) := ins_stand h.a (pos_no (cardRes_pos h0))
  have s2 : Stand (rins ⟨c.h, p2, n2, c.ps⟩ ds) := rins_stand h.b (pos_no (cardRes_pos h0'))
  refine ⟨s1, s2, stand_unique s1 s2 fun v => ?_⟩
  rw [List.mem_map, List.mem_map]
  constructor
  · rintro ⟨d, hd, rfl⟩
    rcases mem_ins_iff.1 hd with rfl | hd
    · exact ⟨_, mem_rins_iff.2 (.inl rfl), rfl⟩
    · obtain ⟨e, he, hv⟩ := List.mem_map.1 (h.v ▸ List.mem_map_of_mem (f := KC.val) hd)
      exact ⟨e, mem_rins_iff.2 (.inr he), hv⟩
  · rintro ⟨d, hd, rfl⟩
    rcases mem_rins_iff.1 hd with rfl | hd
    · exact ⟨_, mem_ins_iff.2 (.inl rfl), rfl⟩
    · obtain ⟨e, he, hv⟩ := List.mem_map.1 (h.v.symm ▸ List.mem_map_of_mem (f := KC.val) hd)
      exact ⟨e, mem_ins_iff.2 (.inr he), hv⟩
end Go.Proofs.YtdgbnaignpploaaDoor.bk
