/- Plain laws: how cards stand. -/
import Derived.Test.YtdgbnaignpploaaDoorB2
namespace Go.Proofs.YtdgbnaignpploaaDoor.bk
open Go.Sym
set_option linter.unusedVariables false
theorem bl_irrefl : ∀ x : List UInt8, Op.bytesLess x x = false
  | [] => rfl
  | a :: x => by
    unfold Op.bytesLess
    rw [bl_irrefl x]
    simp
theorem bl_trans : ∀ x y z : List UInt8, Op.bytesLess x y = true → Op.bytesLess y z = true → Op.bytesLess x z = true
  | [], [], _, h, _ => by cases h
  | [], _ :: _, [], _, h => by cases h
  | [], _ :: _, _ :: _, _, _ => rfl
  | _ :: _, [], _, h, _ => by cases h
  | _ :: _, _ :: _, [], _, h => by cases h
  | a :: x, b :: y, c :: z, h, k => by
    unfold Op.bytesLess at h k ⊢
    simp only [Bool.or_eq_true, Bool.and_eq_true, decide_eq_true_eq, beq_iff_eq] at h k ⊢
    rcases h with h | ⟨rfl, h⟩
    · rcases k with k | ⟨rfl, k⟩
      · exact .inl (UInt8.lt_trans h k)
      · exact .inl h
    · rcases k with k | ⟨rfl, k⟩
      · exact .inl k
      · exact .inr ⟨rfl, bl_trans x y z h k⟩
theorem bl_total : ∀ x y : List UInt8, x ≠ y → Op.bytesLess x y = true ∨ Op.bytesLess y x = true
  | [], [], h => absurd rfl h
  | [], _ :: _, _ => .inl rfl
  | _ :: _, [], _ => .inr rfl
  | a :: x, b :: y, h => by
    unfold Op.bytesLess
    simp only [Bool.or_eq_true, Bool.and_eq_true, decide_eq_true_eq, beq_iff_eq]
    by_cases hab : a = b
    · subst hab
      rcases bl_total x y (fun e => h (by rw [e])) with h | h
      · exact .inl (.inr ⟨rfl, h⟩)
      · exact .inr (.inr ⟨rfl, h⟩)
    · rcases Nat.lt_or_ge a.toNat b.toNat with h | h
      · exact .inl (.inl (UInt8.lt_iff_toNat_lt.2 h))
      · refine .inr (.inl (UInt8.lt_iff_toNat_lt.2 ?_))
        have : a.toNat ≠ b.toNat := fun e => hab (UInt8.toNat_inj.1 e)
        omega
theorem beqB_iff {x y : ByteArray} : beqB x y = true ↔ x = y := by
  unfold beqB
  rw [ByteArray.toList_eq, ByteArray.toList_eq, beq_iff_eq]
  constructor
  · intro h
    obtain ⟨⟨x⟩⟩ := x
    obtain ⟨⟨y⟩⟩ := y
    have h : x = y := h
    rw [h]
  · rintro rfl; rfl
theorem less_irrefl (a : Head) : less a a = false := by
  unfold less blt
  rw [if_pos rfl, bl_irrefl]
theorem less_trans {a b c : Head} (h : less a b = true) (k : less b c = true) : less a c = true := by
  unfold less blt at *
  split at h
  · rename_i e
    split at k
    · rename_i e2
      rw [if_pos (e.trans e2)]
      exact bl_trans _ _ _ h k
    · rename_i e2
      rw [if_neg (by rw [e]; exact e2), e]; exact k
  · rename_i e
    split at k
    · rename_i e2
      rw [if_neg (by rw [← e2]; exact e), ← e2]; exact h
    · rename_i e2
      simp only [decide_eq_true_eq] at h k
      rw [if_neg (by omega)]
      exact decide_eq_true (by omega)
theorem less_total {a b : Head} (h : beqB a.nm b.nm = false) : less a b = true ∨ less b a = true := by
  have hn : a.nm ≠ b.nm := fun e => by rw [beqB_iff.2 e] at h; cases h
  unfold less blt
  by_cases e : a.su = b.su
  · rw [if_pos e, if_pos e.symm]
    refine bl_total _ _ fun e2 => hn ?_
    exact beqB_iff.1 (by unfold beqB; rw [e2]; simp)
  · rw [if_neg e, if_neg (Ne.symm e)]
    rcases Int.lt_or_gt_of_ne e with h | h
    · exact .inl (decide_eq_true h)
    · exact .inr (decide_eq_true h)
/-- cards stand in their order -/
def Stand (cs : List KC) : Prop := cs.Pairwise fun a b => less a.h b.h = true
theorem stands_all (h : Head) (cs : List KC) : ∀ (n : Nat), n ≤ cs.length → (∀ (j : Nat) (d : KC), stands h cs n ≤ j → j < n → cs[j]? = some d → less h d.h = true) ∧ (∀ d : KC, 0 < stands h cs n → cs[stands h cs n - 1]? = some d → less h d.h = false)
  | 0, _ => ⟨fun j d _ hj => absurd hj (Nat.not_lt_zero _), fun d h0 => absurd h0 (Nat.lt_irrefl _)⟩
  | n + 1, hn => by
    obtain ⟨d0, hd0⟩ : ∃ d, cs[n]? = some d := ⟨_, List.getElem?_eq_getElem (by omega)⟩
    obtain ⟨i1, i2⟩ := stands_all h cs n (by omega)
    have e : stands h cs (n + 1) = if less h d0.h then stands h cs n else n + 1 := by
      show (match cs[n]? with | some d => if less h d.h then stands h cs n else n + 1 | none => n + 1) = _
      rw [hd0]
    rw [e]
    split
    · rename_i hl
      refine ⟨fun j d hj hjn hd => ?_, i2⟩
      by_cases hjn' : j = n
      · subst hjn'; rw [hd0] at hd; cases hd; exact hl
      · exact i1 j d hj (by omega) hd
    · rename_i hl
      refine ⟨fun j d hj hjn hd => by omega, fun d _ hd => ?_⟩
      rw [Nat.add_sub_cancel, hd0] at hd
      cases hd
      simpa using hl
theorem ins_stand {c : KC} {cs : List KC} (h : Stand cs) (hc : ∀ d ∈ cs, beqB d.h.nm c.h.nm = false) : Stand (ins c cs) := by
  obtain ⟨i1, i2⟩ := stands_all c.h cs cs.length (Nat.le_refl _)
  have hle := stands_le c.h cs cs.length
  unfold ins
  generalize hi : stands c.h cs cs.length = i at *
  have h0 := h
  unfold Stand at h ⊢
  rw [← List.take_append_drop i cs, List.pairwise_append] at h
  rw [List.pairwise_append, List.pairwise_cons]
  have hdrop : ∀ d ∈ cs.drop i, less c.h d.h = true := by
    intro d hd
    obtain ⟨j, hj⟩ := List.getElem?_of_mem hd
    rw [List.getElem?_drop] at hj
    have := (List.getElem?_eq_some_iff.1 hj).1
    exact i1 (i + j) d (by omega) (by omega) hj
  have htake : ∀ d ∈ cs.take i, less d.h c.h = true := by
    intro d hd
    obtain ⟨j, hj⟩ := List.getElem?_of_mem hd
    have hji : j < i := by have := (List.getElem?_eq_some_iff.1 hj).1; rw [List.length_take] at this; omega
    rw [List.getElem?_take, if_pos hji] at hj
    obtain ⟨e, he⟩ : ∃ e, cs[i - 1]? = some e := ⟨_, List.getElem?_eq_getElem (by omega)⟩
    have h1 := i2 e (by omega) he
    have h2 : less e.h c.h = true := by
      rcases less_total (hc e (List.mem_of_getElem? he)) with h | h
      · exact h
      · rw [h1] at h; cases h
    by_cases hj1 : j = i - 1
    · subst hj1; rw [he] at hj; cases hj; exact h2
    · refine less_trans ?_ h2
      obtain ⟨a1, a2⟩ := List.getElem?_eq_some_iff.1 hj
      obtain ⟨b1, b2⟩ := List.getElem?_eq_some_iff.1 he
      rw [← a2, ← b2]
      exact List.pairwise_iff_getElem.1 h0 j (i - 1) a1 b1 (by omega)
  refine ⟨h.1, ⟨hdrop, h.2.1⟩, fun a ha b hb => ?_⟩
  rcases List.mem_cons.1 hb with rfl | hb
  · exact htake a ha
  · exact h.2.2 a ha b hb
theorem sorted_unique {α : Type} {R : α → α → Prop} (hi : ∀ a, ¬ R a a) (ht : ∀ a b c, R a b → R b c → R a c) : ∀ {l m : List α}, l.Pairwise R → m.Pairwise R → (∀ v, v ∈ l ↔ v ∈ m) → l = m
  | [], [], _, _, _ => rfl
  | [], b :: t, _, _, h => absurd ((h b).2 (List.mem_cons_self ..)) (by simp)
  | a :: s, [], _, _, h => absurd ((h a).1 (List.mem_cons_self ..)) (by simp)
  | a :: s, b :: t, h1, h2, h => by
    rw [List.pairwise_cons] at h1 h2
    have hab : a = b := by
      rcases List.mem_cons.1 ((h a).1 (List.mem_cons_self ..)) with e | e
      · exact e
      · rcases List.mem_cons.1 ((h b).2 (List.mem_cons_self ..)) with e2 | e2
        · exact e2.symm
        · exact absurd (ht _ _ _ (h1.1 b e2) (h2.1 a e)) (hi a)
    subst hab
    have := sorted_unique hi ht h1.2 h2.2 (fun v => ⟨fun hv => by
      rcases List.mem_cons.1 ((h v).1 (List.mem_cons_of_mem _ hv)) with e | e
      · subst e; exact absurd (h1.1 v hv) (hi v)
      · exact e, fun hv => by
      rcases List.mem_cons.1 ((h v).2 (List.mem_cons_of_mem _ hv)) with e | e
      · subst e; exact absurd (h2.1 v hv) (hi v)
      · exact e⟩)
    rw [this]
end Go.Proofs.YtdgbnaignpploaaDoor.bk
