/- Plain laws: names apart. -/
import Derived.Test.YtdgbnaignpploaaDoorP1
namespace Go.Proofs.YtdgbnaignpploaaDoor.bk
open Go.Sym
set_option linter.unusedVariables false
theorem rep1 (l : List Value) : (List.replicate 1 l).flatten = l := by simp [List.replicate]
/-- names stand apart -/
def NDist (cs : List KC) : Prop := cs.Pairwise fun a b => beqB a.h.nm b.h.nm = false
theorem beqB_comm {x y : ByteArray} (h : beqB x y = false) : beqB y x = false := by
  cases e : beqB y x with
  | false => rfl
  | true => rw [beqB_iff.1 e, beqB_self] at h; cases h
theorem ins_names {c : KC} {cs : List KC} (h : NDist cs) (hc : ∀ d ∈ cs, beqB d.h.nm c.h.nm = false) : NDist (ins c cs) := by
  unfold ins
  generalize stands c.h cs cs.length = i
  unfold NDist at h ⊢
  rw [← List.take_append_drop i cs, List.pairwise_append] at h
  rw [List.pairwise_append, List.pairwise_cons]
  refine ⟨h.1, ⟨fun d hd => beqB_comm (hc d (List.mem_of_mem_drop hd)), h.2.1⟩, fun a ha b hb => ?_⟩
  rcases List.mem_cons.1 hb with rfl | hb
  · exact hc a (List.mem_of_mem_take ha)
  · exact h.2.2 a ha b hb
theorem cardRes_pos {s : Bool} {cs : List KC} {c : KC} (h : cardRes s cs c = 0) : ¬ 0 ≤ pos c.h.nm cs := by
  intro hp
  unfold cardRes at h
  split at h
  · cases h
  · split at h
    · rename_i h1; exact h1 h
    · exact absurd h (by first | rw [if_pos hp]; decide | decide)
theorem ninv_ins {s : Bool} {cs : List KC} {c : KC} (h : Stand cs ∧ NDist cs) (h0 : cardRes s cs c = 0) (po' : Option Addr) (pc' : Nat) : Stand (ins ⟨c.h, po', pc', c.ps⟩ cs) ∧ NDist (ins ⟨c.h, po', pc', c.ps⟩ cs) :=
  ⟨ins_stand h.1 (pos_no (cardRes_pos h0)), ins_names h.2 (pos_no (cardRes_pos h0))⟩
theorem pos_at {cs : List KC} {i : Nat} {c : KC} (hn : NDist cs) (h : cs[i]? = some c) : pos c.h.nm cs = i := by
  refine pos_some h (beqB_self _) fun j d hj hd => ?_
  obtain ⟨a1, a2⟩ := List.getElem?_eq_some_iff.1 h
  obtain ⟨b1, b2⟩ := List.getElem?_eq_some_iff.1 hd
  rw [← a2, ← b2]
  exact List.pairwise_iff_getElem.1 hn j i b1 a1 hj
end Go.Proofs.YtdgbnaignpploaaDoor.bk
