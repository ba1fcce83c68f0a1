/- Plain laws: a book filled without a refusal. -/
import Derived.Test.YtdgbnaignpploaaDoorP1
import Derived.Test.YtdgbnaignpploaaDoorL3
namespace Go.Proofs.YtdgbnaignpploaaDoor.bk
open Go.Sym
set_option linter.unusedVariables false
section
variable (cards : List KC) (texts : List ByteArray) (marks : List MK)
def nsAt (D : List Bool) (k : Nat) : ByteArray := if 1 ≤ k ∧ k - 1 < texts.length ∧ D[cards.length + (k - 1)]? = some true then (texts[k - 1]?).getD ⟨#[]⟩ else ⟨#[]⟩
structure Full (D : List Bool) (cs : List KC) (ns : List ByteArray) (ms : List MK) : Prop where
  st : Stand cs
  mem : ∀ v, v ∈ cs.map KC.val ↔ ∃ (i : Nat) (c : KC), D[i]? = some true ∧ cards[i]? = some c ∧ c.val = v
  len : cs.length = (D.take cards.length).count true
  nl : ns.length = 9
  nsA : ∀ k : Nat, k < 9 → ns[k]? = some (nsAt cards texts D k)
  ml : ms.length = 5
  msA : ∀ (k : Nat) (y : MK), ms[k]? = some y → (y = noMK ∧ ∀ (j : Nat) (m : MK), D[cards.length + texts.length + j]? = some true → marks[j]? = some m → m.ma.toNat ≠ k) ∨ (1 ≤ y.ma ∧ ∃ j : Nat, D[cards.length + texts.length + j]? = some true ∧ marks[j]? = some y ∧ y.ma.toNat = k)
  inj : ∀ (j1 j2 : Nat) (m1 m2 : MK), D[cards.length + texts.length + j1]? = some true → D[cards.length + texts.length + j2]? = some true → marks[j1]? = some m1 → marks[j2]? = some m2 → m1.ma.toNat = m2.ma.toNat → j1 = j2
def FInv (D : List Bool) (r : Nat) (cs : List KC) (ns : List ByteArray) (ms : List MK) : Prop := r ≠ 0 ∨ Full cards texts marks D cs ns ms
end
theorem finv_start (cards : List KC) (texts : List ByteArray) (marks : List MK) : FInv cards texts marks (List.replicate (cards.length + texts.length + marks.length) false) 0 [] (List.replicate 9 ⟨#[]⟩) (List.replicate 5 noMK) := by
  have hf : ∀ i : Nat, (List.replicate (cards.length + texts.length + marks.length) false)[i]? ≠ some true := by
    intro i h
    rw [List.getElem?_replicate] at h
    split at h <;> cases h
  refine .inr ⟨List.Pairwise.nil, fun v => ⟨fun h => by simp at h, fun ⟨i, c, h, _⟩ => absurd h (hf i)⟩, ?_, List.length_replicate, fun k hk => ?_, List.length_replicate, fun k y hy => ?_, fun j1 j2 m1 m2 h => absurd h (hf _)⟩
  · rw [List.take_replicate, List.count_replicate]; rfl
  · rw [List.getElem?_replicate, if_pos hk]
    unfold nsAt
    rw [if_neg (fun h => hf _ h.2.2)]
  · rw [List.getElem?_replicate] at hy
    split at hy
    · cases hy
      exact .inl ⟨rfl, fun j m h => absurd h (hf _)⟩
    · cases hy
theorem itemAt_card {cards : List KC} {texts : List ByteArray} {marks : List MK} {i : Nat} {c : KC} (h : itemAt cards texts marks i = some (.card c)) : i < cards.length ∧ cards[i]? = some c := by
  unfold itemAt at h
  split at h
  · rename_i hi
    refine ⟨hi, ?_⟩
    cases hc : cards[i]? with
    | none => rw [hc] at h; cases h
    | some d => rw [hc] at h; cases h; rfl
  · split at h
    · cases hc : texts[i - cards.length]? with
      | none => rw [hc] at h; cases h
      | some d => rw [hc] at h; cases h
    · cases hc : marks[i - cards.length - texts.length]? with
      | none => rw [hc] at h; cases h
      | some d => rw [hc] at h; cases h
theorem itemAt_trait {cards : List KC} {texts : List ByteArray} {marks : List MK} {i : Nat} {t : Int} {x : ByteArray} (h : itemAt cards texts marks i = some (.trait t x)) : ∃ j, i = cards.length + j ∧ texts[j]? = some x ∧ t = 1 + (j : Int) := by
  unfold itemAt at h
  split at h
  · cases hc : cards[i]? with
    | none => rw [hc] at h; cases h
    | some d => rw [hc] at h; cases h
  · split at h
    · cases hc : texts[i - cards.length]? with
      | none => rw [hc] at h; cases h
      | some d => rw [hc] at h; cases h; exact ⟨i - cards.length, by omega, hc, rfl⟩
    · cases hc : marks[i - cards.length - texts.length]? with
      | none => rw [hc] at h; cases h
      | some d => rw [hc] at h; cases h
theorem itemAt_mark {cards : List KC} {texts : List ByteArray} {marks : List MK} {i : Nat} {m : MK} (h : itemAt cards texts marks i = some (.mark m)) : ∃ j, i = cards.length + texts.length + j ∧ marks[j]? = some m := by
  unfold itemAt at h
  split at h
  · cases hc : cards[i]? with
    | none => rw [hc] at h; cases h
    | some d => rw [hc] at h; cases h
  · split at h
    · cases hc : texts[i - cards.length]? with
      | none => rw [hc] at h; cases h
      | some d => rw [hc] at h; cases h
    · cases hc : marks[i - cards.length - texts.length]? with
      | none => rw [hc] at h; cases h
      | some d => rw [hc] at h; cases h; exact ⟨i - cards.length - texts.length, by omega, hc⟩
end Go.Proofs.YtdgbnaignpploaaDoor.bk
