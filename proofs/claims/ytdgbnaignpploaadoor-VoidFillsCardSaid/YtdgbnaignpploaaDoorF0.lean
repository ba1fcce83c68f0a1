/- Plain laws: cards added one by one; what a book of known cards holds. -/
import Derived.Test.YtdgbnaignpploaaDoorP6
import Derived.Test.YtdgbnaignpploaaDoorBD
namespace Go.Proofs.YtdgbnaignpploaaDoor.bk
open Go.Sym
set_option linter.unusedVariables false
structure AInv (cs dn : List KC) : Prop where
  st : Stand cs
  nd : NDist cs
  mem : ∀ v, v ∈ cs.map KC.val ↔ v ∈ dn.map KC.val
  len : cs.length = dn.length
theorem AInv.nil : AInv [] [] := ⟨List.Pairwise.nil, List.Pairwise.nil, fun _ => Iff.rfl, rfl⟩
theorem AInv.step {cs dn : List KC} {c : KC} (h : AInv cs dn) (hs : dn.length < 64) (hc : cardCheck c.h c.ps = 0) (hn : ∀ d ∈ dn, beqB d.h.nm c.h.nm = false) :
    cardRes false cs c = 0 ∧ ∀ po' pc', AInv (ins ⟨c.h, po', pc', c.ps⟩ cs) (dn ++ [c]) := by
  have hno : ∀ d ∈ cs, beqB d.h.nm c.h.nm = false := fun d hd => by
    obtain ⟨e, he, hv⟩ := List.mem_map.1 ((h.mem d.val).1 (List.mem_map_of_mem hd))
    have : e.h = d.h := congrArg Prod.fst hv
    rw [← this]; exact hn e he
  have hpos : ¬ 0 ≤ pos c.h.nm cs := by
    intro hp
    have hl := pos_lt c.h.nm cs
    unfold pos at hp hl
    split at hp
    · rename_i k hk
      obtain ⟨h1, h2, -⟩ := List.findIdx?_eq_some_iff_getElem.1 hk
      rw [hno _ (List.getElem_mem h1)] at h2; cases h2
    · omega
  have h0 : cardRes false cs c = 0 := by
    unfold cardRes
    rw [if_neg (by decide), if_neg (by rw [hc]; decide), if_neg hpos, if_neg (by rw [h.len]; omega)]
  refine ⟨h0, fun po' pc' => ⟨(ninv_ins ⟨h.st, h.nd⟩ h0 po' pc').1, (ninv_ins ⟨h.st, h.nd⟩ h0 po' pc').2, fun v => ?_, by rw [ins_len, List.length_append, h.len]; rfl⟩⟩
  rw [List.map_append, List.mem_append, ← h.mem]
  constructor
  · intro hv
    obtain ⟨d, hd, rfl⟩ := List.mem_map.1 hv
    rcases mem_ins hd with rfl | hd
    · exact .inr (List.mem_singleton.2 rfl)
    · exact .inl (List.mem_map_of_mem hd)
  · rintro (hv | hv)
    · obtain ⟨d, hd, rfl⟩ := List.mem_map.1 hv
      exact List.mem_map_of_mem (mem_ins_iff.2 (.inr hd))
    · have hv := List.mem_singleton.1 hv
      rw [hv]
      exact List.mem_map.2 ⟨_, mem_ins_iff.2 (.inl rfl), rfl⟩
/-- what is known of a suit's cards (V), and, ordered (S), of the book that holds them; e: how it is sealed -/
structure Fills (V S : List (Head × List Part)) (su e : Int) : Prop where
  len : V.length = S.length
  le : V.length ≤ 7
  ok : ∀ v ∈ V, cardCheck v.1 v.2 = 0
  su : ∀ (i : Nat) (v : Head × List Part), i < 6 → V[i]? = some v → v.1.su = su
  ap : V.Pairwise fun a b => beqB a.1.nm b.1.nm = false
  st : S.Pairwise fun a b => less a.1 b.1 = true
  mem : ∀ v, v ∈ S ↔ v ∈ V
  seal_ : sealRes false (S.map fun v => ⟨v.1, none, 0, v.2⟩) = e
theorem AInv.val {V S : List (Head × List Part)} {su e : Int} (hF : Fills V S su e) {cs ks : List KC} (h : AInv cs ks) (hk : ∀ v, v ∈ ks.map KC.val ↔ v ∈ V) : cs.map KC.val = S := by
  have h1 : (S.map fun v => KC.mk v.1 none 0 v.2).map KC.val = S := by
    rw [List.map_map]
    exact (List.map_congr_left fun v _ => rfl).trans (List.map_id S)
  rw [← h1]
  refine stand_unique h.st ?_ fun v => ?_
  · rw [stand_val, h1]; exact hF.st
  · rw [h1, h.mem, hk, hF.mem]
theorem AInv.seal_ {V S : List (Head × List Part)} {su e : Int} (hF : Fills V S su e) {cs ks : List KC} (h : AInv cs ks) (hk : ∀ v, v ∈ ks.map KC.val ↔ v ∈ V) : sealRes false cs = e := by
  rw [← hF.seal_]
  refine sealRes_val ?_ false
  rw [h.val hF hk, List.map_map]
  exact ((List.map_congr_left fun v _ => rfl).trans (List.map_id S)).symm
/-- two cards change places -/
theorem swap_perm {ks : List KC} {i j : Nat} {c d : KC} (hi : ks[i]? = some c) (hj : ks[j]? = some d) : ((ks.set i d).set j c).Perm ks := by
  obtain ⟨h1, e1⟩ := List.getElem?_eq_some_iff.1 hi
  obtain ⟨h2, e2⟩ := List.getElem?_eq_some_iff.1 hj
  have h := Array.swap_perm (xs := ks.toArray) (i := i) (j := j) (by simpa using h1) (by simpa using h2)
  have h := h.toList
  rw [Array.toList_swap] at h
  simpa [e1, e2] using h
theorem flat_set {ks : List KC} {i : Nat} (h : i < ks.length) (c : KC) : Sym.splice (ks.flatMap KC.cells) (i * 9) c.cells = (ks.set i c).flatMap KC.cells := by
  have h1 : ks.flatMap KC.cells = (ks.take i).flatMap KC.cells ++ (ks[i].cells ++ (ks.drop (i + 1)).flatMap KC.cells) := by
    rw [← List.flatMap_cons, ← List.flatMap_append, List.getElem_cons_drop, List.take_append_drop]
  have h2 : (ks.set i c).flatMap KC.cells = (ks.take i).flatMap KC.cells ++ (c.cells ++ (ks.drop (i + 1)).flatMap KC.cells) := by
    rw [List.set_eq_take_append_cons_drop, if_pos h, List.flatMap_append, List.flatMap_cons]
  have h3 : ((ks.take i).flatMap KC.cells).length = i * 9 := by rw [flat_len, List.length_take]; omega
  rw [h1, h2]
  unfold Sym.splice
  rw [← h3, List.take_left, c.cells_len, ← List.drop_drop, List.drop_left, List.drop_left' (ks[i].cells_len)]
  simp
end Go.Proofs.YtdgbnaignpploaaDoor.bk
