/- Plain laws for the walks of fills. -/
import Derived.Test.YtdgbnaignpploaaDoorP6
import Derived.Test.YtdgbnaignpploaaDoorL4
namespace Go.Proofs.YtdgbnaignpploaaDoor.bk
open Go.Sym
set_option linter.unusedVariables false
variable {X : St}
theorem flat_card {L : List KC} {i : Nat} {c : KC} (h : L[i]? = some c) (m : Nat) (e : TypeId) (wr : Bool) : cellsOf (some ⟨L.flatMap KC.cells, m, e, wr⟩) (i * 9) 9 = some c.cells := by
  have := (List.getElem?_eq_some_iff.1 h).1
  rw [cellsOf_some (by show i * 9 + 9 ≤ (L.flatMap KC.cells).length; rw [flat_len]; omega)]
  exact congrArg some (flat_at h)
theorem flat_cell {L : List KC} {i j : Nat} {c : KC} (h : L[i]? = some c) (hj : j < 9) : (L.flatMap KC.cells)[i * 9 + j]? = c.cells[j]? := by
  have h2 := flat_at h
  have h3 : (((L.flatMap KC.cells).drop (i * 9)).take 9)[j]? = c.cells[j]? := by rw [h2]
  rw [List.getElem?_take, if_pos hj, List.getElem?_drop] at h3
  exact h3
theorem flat_su {L : List KC} {i : Nat} {c : KC} (h : L[i]? = some c) : (L.flatMap KC.cells)[i * 9 + 1]? = some (.int .u8 c.h.su) := (flat_cell h (by decide)).trans rfl
theorem flat_nm {L : List KC} {i : Nat} {c : KC} (h : L[i]? = some c) : (L.flatMap KC.cells)[i * 9]? = some (.string c.h.nm) := (flat_cell (j := 0) h (by decide)).trans rfl
theorem ndist_take {ks : List KC} (h : NDist ks) {i : Nat} {c : KC} (hc : ks[i]? = some c) : ∀ d ∈ ks.take i, beqB d.h.nm c.h.nm = false := by
  intro d hd
  obtain ⟨j, hj⟩ := List.getElem?_of_mem hd
  have hji : j < i := by have := (List.getElem?_eq_some_iff.1 hj).1; rw [List.length_take] at this; omega
  rw [List.getElem?_take, if_pos hji] at hj
  obtain ⟨a1, a2⟩ := List.getElem?_eq_some_iff.1 hj
  obtain ⟨b1, b2⟩ := List.getElem?_eq_some_iff.1 hc
  rw [← a2, ← b2]
  exact List.pairwise_iff_getElem.1 h j i a1 b1 hji
theorem cellOf_le {Y : St} {b o : Nat} {v : Value} (h : cellOf (X.get b) o = some v) (k : Le X Y) : cellOf (Y.get b) o = some v := by
  cases hg : X.get b with
  | none => rw [hg] at h; cases h
  | some B => rw [k.blk b B hg, ← hg]; exact h
theorem cellOf_keep {Y : St} {a b o : Nat} {v : Value} (h : cellOf (X.get b) o = some v) (hb : b ≠ a) (k : Keep a X Y) : cellOf (Y.get b) o = some v := by
  cases hg : X.get b with
  | none => rw [hg] at h; cases h
  | some B => rw [k.blk b B hb hg, ← hg]; exact h
theorem le_drop_set {g : Nat} {B : Blk} : Le (X.drop g) (X.set g B) := ⟨Nat.le_refl _, fun c C e => by
  by_cases hc : c = g
  · subst hc; rw [get_drop_eq] at e; cases e
  · rw [get_drop_ne hc] at e; rw [VJ hc]; exact e, fun _ _ h => h⟩
/-- a block forgotten -/
def hide (X : St) (a : Nat) : St := { X with heap := fun m => if m = a then none else X.heap m, objs := fun m => if m = a then none else X.objs m }
theorem get_hide {a c : Nat} (h : c ≠ a) : (hide X a).get c = X.get c := by simp [St.get, hide, h]
theorem hide_keep {Y : St} {a : Nat} (k : Keep a X Y) : Le (hide X a) Y := ⟨k.next, fun c C e => by
  by_cases hc : c = a
  · subst hc
    have : (hide X c).get c = none := by simp [St.get, hide]
    rw [this] at e; cases e
  · rw [get_hide hc] at e; exact k.blk c C hc e, fun c o e => by
  by_cases hc : c = a
  · subst hc
    have : (hide X c).obj c = none := by simp [St.obj, hide]
    rw [this] at e; cases e
  · have : (hide X a).obj c = X.obj c := by simp [St.obj, hide, hc]
    rw [this] at e; exact k.obj c o hc e⟩
theorem hide_le {a : Nat} : Le (hide X a) X := hide_keep (Keep.of_le (Le.refl _))
theorem pick_nat (z : Int) {m : Nat} (hm : 0 < m) : ∃ j : Nat, pickF z (m : Int) = (j : Int) ∧ j < m := by
  have h1 := Int.tmod_lt_of_pos z (show (0 : Int) < m by omega)
  have h2 : -(m : Int) < z.tmod m := by
    have := Int.tmod_lt_of_pos (-z) (show (0 : Int) < m by omega)
    rw [Int.neg_tmod] at this
    omega
  unfold pickF
  rw [if_neg (by omega)]
  split
  · exact ⟨(z.tmod m + m).toNat, by omega, by omega⟩
  · exact ⟨(z.tmod m).toNat, by omega, by omega⟩
theorem rem_nat (i : Nat) {m : Nat} (hm : 0 < m) (hm2 : m < 9223372036854775808) : divF .rem .i64 (i : Int) (m : Int) = some ((i % m : Nat) : Int) := by
  unfold divF
  simp
  exact ⟨by omega, Int.tmod_eq_emod_of_nonneg (by omega)⟩
end Go.Proofs.YtdgbnaignpploaaDoor.bk
