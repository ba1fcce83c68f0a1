/- Plain laws: names apart, numbers by names, what a sealed book calls. -/
import Derived.Test.YtdgbnaignpploaaDoorP1
import Derived.Test.YtdgbnaignpploaaDoorP2
namespace Go.Proofs.YtdgbnaignpploaaDoor.bk
open Go.Sym
set_option linter.unusedVariables false
/-- names stand apart -/
def NDist (cs : List KC) : Prop := cs.Pairwise fun a b => beqB a.h.nm b.h.nm = false
theorem beqB_comm {x y : ByteArray} (h : beqB x y = false) : beqB y x = false := by
  cases e : beqB y x with
  | false => rfl
  | true => rw [beqB_iff.1 e, beqB_self] at h; cases h
theorem ins_names {c : KC} {cs : List KC} (h : NDist cs) (hc : ∀ d ∈ cs, beqB d.h.nm c.h.nm = false) : NDist (ins c cs) := by
  unfold ins
  generalize stands c.h cs cs.length = i
  unfold NDist at h ⊢
  rw [← List.take_append_drop i cs, List.pairwise_append] at h
  rw [List.pairwise_append, List.pairwise_cons]
  refine ⟨h.1, ⟨fun d hd => beqB_comm (hc d (List.mem_of_mem_drop hd)), h.2.1⟩, fun a ha b hb => ?_⟩
  rcases List.mem_cons.1 hb with rfl | hb
  · exact hc a (List.mem_of_mem_take ha)
  · exact h.2.2 a ha b hb
theorem cardRes_pos {s : Bool} {cs : List KC} {c : KC} (h : cardRes s cs c = 0) : ¬ 0 ≤ pos c.h.nm cs := by
  intro hp
  unfold cardRes at h
  split at h
  · cases h
  · split at h
    · rename_i h1; exact h1 h
    · exact absurd h (by first | rw [if_pos hp]; decide | decide)
/-- a book's cards in the making: in their order, names apart -/
def NInv (D : List Bool) (r : Nat) (cs : List KC) (ns : List ByteArray) (ms : List MK) : Prop := Stand cs ∧ NDist cs
theorem ninv_start (D : List Bool) (ns : List ByteArray) (ms : List MK) : NInv D 0 [] ns ms := ⟨List.Pairwise.nil, List.Pairwise.nil⟩
theorem ninv_ins {s : Bool} {cs : List KC} {c : KC} (h : Stand cs ∧ NDist cs) (h0 : cardRes s cs c = 0) (po' : Option Addr) (pc' : Nat) : Stand (ins ⟨c.h, po', pc', c.ps⟩ cs) ∧ NDist (ins ⟨c.h, po', pc', c.ps⟩ cs) :=
  ⟨ins_stand h.1 (pos_no (cardRes_pos h0)), ins_names h.2 (pos_no (cardRes_pos h0))⟩
theorem ninv_step {cards : List KC} {texts : List ByteArray} {marks : List MK} (D : List Bool) (r : Nat) (cs : List KC) (ns : List ByteArray) (ms : List MK) (i : Nat) (it : Item) (e : Int) (cs' : List KC) (ns' : List ByteArray) (ms' : List MK)
    (h : NInv D r cs ns ms) (_ : D[i]? = some false) (_ : itemAt cards texts marks i = some it) (hs : Step false e cs cs' ns ns' ms ms' it) : NInv (D.set i true) (if e = 0 then r else r + 1) cs' ns' ms' := by
  cases it with
  | card c =>
    obtain ⟨he, -, -, ⟨h0, po', pc', rfl⟩ | ⟨h0, rfl⟩⟩ := hs
    · exact ninv_ins h (he.symm.trans h0) po' pc'
    · exact h
  | trait t x => obtain ⟨-, rfl, -, -⟩ := hs; exact h
  | mark m => obtain ⟨-, rfl, -, -⟩ := hs; exact h
theorem pos_at {cs : List KC} {i : Nat} {c : KC} (hn : NDist cs) (h : cs[i]? = some c) : pos c.h.nm cs = i := by
  refine pos_some h (beqB_self _) fun j d hj hd => ?_
  obtain ⟨a1, a2⟩ := List.getElem?_eq_some_iff.1 h
  obtain ⟨b1, b2⟩ := List.getElem?_eq_some_iff.1 hd
  rw [← a2, ← b2]
  exact List.pairwise_iff_getElem.1 hn j i b1 a1 hj
theorem sealPs_call {all : List KC} : ∀ {ps : List Part}, sealPs all ps = 0 → ∀ p ∈ ps, p.vb = 7 → ∃ d, 0 ≤ pos p.nm all ∧ all[(pos p.nm all).toNat]? = some d ∧ d.h.ki ≠ 2
  | [], _, p, hp, _ => by cases hp
  | q :: r, h, p, hp, hv => by
    unfold sealPs at h
    rcases List.mem_cons.1 hp with rfl | hp
    · rw [if_pos hv] at h
      split at h
      · cases h
      · rename_i h1
        split at h
        · cases h
        · rename_i h2
          have hl := pos_lt p.nm all
          obtain ⟨d, hd⟩ : ∃ d, all[(pos p.nm all).toNat]? = some d := ⟨_, List.getElem?_eq_getElem (by omega)⟩
          refine ⟨d, by omega, hd, fun hk => h2 ?_⟩
          rw [hd]; simpa using hk
    · refine sealPs_call ?_ p hp hv
      split at h
      · split at h
        · cases h
        · split at h
          · cases h
          · exact h
      · exact h
theorem sealCs_call {all : List KC} : ∀ {cs : List KC}, sealCs all cs = 0 → ∀ c ∈ cs, sealPs all c.ps = 0
  | [], _, c, hc => by cases hc
  | d :: r, h, c, hc => by
    unfold sealCs at h
    split at h
    · rename_i h1; exact absurd h h1
    · rename_i h1
      rcases List.mem_cons.1 hc with rfl | hc
      · exact Decidable.not_not.1 h1
      · exact sealCs_call h c hc
theorem sealPs_res (all : List KC) : ∀ ps : List Part, sealPs all ps = 0 ∨ sealPs all ps = 6 ∨ sealPs all ps = 8
  | [] => .inl rfl
  | q :: r => by
    unfold sealPs
    split
    · split
      · exact .inr (.inl rfl)
      · split
        · exact .inr (.inr rfl)
        · exact sealPs_res all r
    · exact sealPs_res all r
theorem sealCs_res (all : List KC) : ∀ cs : List KC, sealCs all cs = 0 ∨ sealCs all cs = 6 ∨ sealCs all cs = 8
  | [] => .inl rfl
  | d :: r => by
    unfold sealCs
    split
    · rename_i h; exact (sealPs_res all d.ps)
    · exact sealCs_res all r
theorem stand_at {cs : List KC} (h : Stand cs) {i : Nat} {c d : KC} (hc : cs[i]? = some c) (hd : cs[i + 1]? = some d) : less c.h d.h = true := by
  obtain ⟨a1, a2⟩ := List.getElem?_eq_some_iff.1 hc
  obtain ⟨b1, b2⟩ := List.getElem?_eq_some_iff.1 hd
  rw [← a2, ← b2]
  exact List.pairwise_iff_getElem.1 h i (i + 1) a1 b1 (by omega)
end Go.Proofs.YtdgbnaignpploaaDoor.bk
